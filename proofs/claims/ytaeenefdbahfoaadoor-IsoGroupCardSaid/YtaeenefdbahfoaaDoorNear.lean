/- The contracts of cell.corners and (cell.Lattice).near. -/
import Derived.Test.YtaeenefdbahfoaaDoorAxis
import Derived.Test.YtaeenefdbahfoaaDoorH0
import Derived.Test.YtaeenefdbahfoaaDoorHCell0
namespace Go.Proofs.YtaeenefdbahfoaaDoor
open Go.RowKit Go.Proofs.YtaeenefdbahfoaaDoorW.PrintWords Go.Proofs.YtaeenefdbahfoaaDoorW.PrintLast Go.Proofs.YtaeenefdbahfoaaDoorW.PrintMore
open H

theorem box3 (w : World) (x y z : Value) (t : Nat) : ∃ w1, w1 = w.alloc (.cells #[x, y, z] t) ∧ w1.cell? ⟨w.heap.size, 0, none⟩ = some x ∧ w1.cell? ⟨w.heap.size, 1, none⟩ = some y ∧ w1.cell? ⟨w.heap.size, 2, none⟩ = some z ∧ w.heap.size < w1.heap.size ∧ Below w.heap.size w w1 :=
  ⟨_, rfl, by simp, by simp, by simp, by simp, below_alloc (Below.refl _ _) _⟩

theorem six_index (k : Nat) (hk : k < 6) : ∃ x y : Int, -1 ≤ x ∧ x ≤ 1 ∧ -1 ≤ y ∧ y ≤ 1 ∧ sixI[2 * k]? = some x ∧ sixI[2 * k + 1]? = some y ∧ ∀ w : World, (Instr.index 69 (.agg #[.int .i64 1, .int .i64 0, .int .i64 0, .int .i64 1, .int .i64 (-1), .int .i64 1, .int .i64 (-1), .int .i64 0, .int .i64 0, .int .i64 (-1), .int .i64 1, .int .i64 (-1)]) (.int .i64 k)).run Tryd.prog w = .ok (.agg #[.int .i64 x, .int .i64 y]) w := by
  have : k = 0 ∨ k = 1 ∨ k = 2 ∨ k = 3 ∨ k = 4 ∨ k = 5 := by omega
  rcases this with rfl | rfl | rfl | rfl | rfl | rfl
  · exact ⟨1, 0, by decide, by decide, by decide, by decide, rfl, rfl, fun w => by kernel_rfl⟩
  · exact ⟨0, 1, by decide, by decide, by decide, by decide, rfl, rfl, fun w => by kernel_rfl⟩
  · exact ⟨-1, 1, by decide, by decide, by decide, by decide, rfl, rfl, fun w => by kernel_rfl⟩
  · exact ⟨-1, 0, by decide, by decide, by decide, by decide, rfl, rfl, fun w => by kernel_rfl⟩
  · exact ⟨0, -1, by decide, by decide, by decide, by decide, rfl, rfl, fun w => by kernel_rfl⟩
  · exact ⟨1, -1, by decide, by decide, by decide, by decide, rfl, rfl, fun w => by kernel_rfl⟩

def sixP : List (Int × Int) := [(1, 0), (0, 1), (-1, 1), (-1, 0), (0, -1), (1, -1)]
def hexL (a b : Int) (k : Nat) : List S65 := (sixP.take k).map fun p => ⟨⟨a + p.1, b + p.2⟩, 0⟩

theorem hexL_succ {a b : Int} (k : Nat) (hk : k < 6) {x y : Int} (hx : sixI[2 * k]? = some x) (hy : sixI[2 * k + 1]? = some y) : hexL a b (k + 1) = hexL a b k ++ [⟨⟨a + x, b + y⟩, 0⟩] := by
  have : k = 0 ∨ k = 1 ∨ k = 2 ∨ k = 3 ∨ k = 4 ∨ k = 5 := by omega
  rcases this with rfl | rfl | rfl | rfl | rfl | rfl <;> (simp [sixI] at hx hy; subst hx; subst hy; simp [hexL, sixP])

set_option maxHeartbeats 1000000 in
theorem near_hex (a b h : Int) (w : World) (hG : Six w) (ha : -4398046511104 ≤ a) (ha' : a ≤ 4398046511104) (hb : -4398046511104 ≤ b) (hb' : b ≤ 4398046511104) :
    Calls Tryd.prog 106 #[.int .i64 1, .agg #[.int .i64 a, .int .i64 b, .int .i64 h]] w fun e w' => ∃ v : Value, e = .returned v ∧ Kd.R k65 65 w' w.heap.size (fun _ => True) v (hexL a b 6) ∧ Below w.heap.size w w' := by
  go_enter Tryd.func106, Tryd.ntmps106
  go_wp2_with fail
  obtain ⟨w1, hw1, c0, c1, c2, hsz, hB1⟩ := box3 w (.int .i64 a) (.int .i64 b) (.int .i64 h) 65
  rw [← hw1]
  have hG1 := hG.below hB1
  clear hw1
  refine (six_any w1 hG1).mono ?_
  rintro e w2 ⟨rfl, hb2⟩
  have HB1 := Aside0.mk hB1
  have HB2 := Aside0.mk hb2
  clear hB1 hb2
  unfold sixVal
  go_wp2
  go_loopw [5, 27] (fun v i wr => ∃ k : Nat, k ≤ 6 ∧ i = .int .i64 k ∧ Kd.R k65 65 wr w1.heap.size (fun _ => True) v (hexL a b k) ∧ Below w1.heap.size w1 wr) (fun _ i _ => 6 - (intOf i).toNat)
  case atStart => exact ⟨0, by omega, rfl, Kd.R_nil _ _ _ _ _, HB2.out⟩
  case round =>
    obtain ⟨k, hk, rfl, hO, hB⟩ := hrel
    have d0 := (hB.cell (p := ⟨w.heap.size, 0, none⟩) hsz).trans c0
    have d1 := (hB.cell (p := ⟨w.heap.size, 1, none⟩) hsz).trans c1
    have hzr : w.heap.size < wr.heap.size := Nat.lt_of_lt_of_le hsz hB.size
    have HO := Aside0.mk hO
    have HB := Aside0.mk hB
    clear hO hB c0 c1 c2 HB2
    by_cases hlt : k < 6
    · obtain ⟨x, y, x1, x2, y1, y2, ex, ey, hix⟩ := six_index k hlt
      have EX := Aside0.mk ex
      have EY := Aside0.mk ey
      clear ex ey
      have hz1 := HB.out.size
      have hl : (hexL a b k).length ≤ 6 := by simp [hexL, sixP]; omega
      go_wp2_with (at_builtin; refine app1 k65 w1.heap.size (.tmp 30) (.tmp 45) 34 65 (.agg #[.int .i64 0, .int .i64 0, .int .i64 0]) 24 _ (hexL a b k) ⟨⟨a + x, b + y⟩, 0⟩ [.int .i64 (a + x), .int .i64 (b + y), .int .i64 0] _ rfl rfl Tryd.underlying34 info65 rfl (by decide) (by decide) rfl (by simp; done) rfl (k65_mkM _ _ _ _) (Kd.R_alloc HO.out _) (below_alloc2 HB.out (by omega) _) (by simp; omega) (by omega) ?_; intro v1 w3 ho3 hb3; have HO3 := Aside0.mk ho3; have HB3 := Aside0.mk hb3; clear ho3 hb3)
      go_roundw
      case rel => exact ⟨k + 1, by omega, by go_num, by rw [hexL_succ k hlt EX.out EY.out]; exact HO3.out, HB3.out⟩
      case measure => simp [intOf]; omega
    · obtain rfl : k = 6 := by omega
      go_wp2
      go_ret
      exact ⟨_, rfl, Kd.R_lower HO.out (by omega), (HB1.out.trans (HB.out.mono (by omega)))⟩

def edgeP (d : Int) : List (Int × Int) := [(0, 0), (d, 0), (0, d)]
def edgeL (a b h : Int) (k : Nat) : List S65 := ((edgeP (2 * h - 1)).take k).map fun p => ⟨⟨a + p.1, b + p.2⟩, 1 - h⟩

set_option maxHeartbeats 1000000 in
theorem near_edge (a b h : Int) (w : World) (ha : -4398046511104 ≤ a) (ha' : a ≤ 4398046511104) (hb : -4398046511104 ≤ b) (hb' : b ≤ 4398046511104) (hh0 : 0 ≤ h) (hh1 : h ≤ 1) :
    Calls Tryd.prog 106 #[.int .i64 2, .agg #[.int .i64 a, .int .i64 b, .int .i64 h]] w fun e w' => ∃ v : Value, e = .returned v ∧ Kd.R k65 65 w' w.heap.size (fun _ => True) v (edgeL a b h 3) ∧ Below w.heap.size w w' := by
  go_enter Tryd.func106, Tryd.ntmps106
  go_wp2_with fail
  obtain ⟨w2, hw2, hc, he, hsz, hB2⟩ := two_new w #[.int .i64 a, .int .i64 b, .int .i64 h] #[.int .i64 0, .int .i64 0, .int .i64 (2 * h - 1), .int .i64 0, .int .i64 0, .int .i64 (2 * h - 1)] 65 63
  rw [← hw2]
  clear hw2
  have HB2 := Aside0.mk hB2
  clear hB2
  go_loopw [5, 61] (fun v i wr => ∃ k : Nat, k ≤ 3 ∧ i = .int .i64 k ∧ Kd.R k65 65 wr w2.heap.size (fun _ => True) v (edgeL a b h k) ∧ Below w2.heap.size w2 wr) (fun _ i _ => 3 - (intOf i).toNat)
  case atStart => exact ⟨0, by omega, rfl, Kd.R_nil _ _ _ _ _, Below.refl _ _⟩
  case round =>
    obtain ⟨k, hk, rfl, hO, hB⟩ := hrel
    have d0 := (hB.cell (p := ⟨w.heap.size, 0, none⟩) (by show w.heap.size < _; omega)).trans (hc 0 _ rfl)
    have d1 := (hB.cell (p := ⟨w.heap.size, 1, none⟩) (by show w.heap.size < _; omega)).trans (hc 1 _ rfl)
    have d2 := (hB.cell (p := ⟨w.heap.size, 2, none⟩) (by show w.heap.size < _; omega)).trans (hc 2 _ rfl)
    have hE : ∀ j v, (#[.int .i64 0, .int .i64 0, .int .i64 (2 * h - 1), .int .i64 0, .int .i64 0, .int .i64 (2 * h - 1)] : Array Value)[j]? = some v → wr.cell? ⟨w.heap.size + 1, j, none⟩ = some v := fun j v hv => (hB.cell (p := ⟨w.heap.size + 1, j, none⟩) (by show w.heap.size + 1 < _; omega)).trans (he j v hv)
    have hzr : w.heap.size + 1 < wr.heap.size := Nat.lt_of_lt_of_le hsz hB.size
    have hzr0 : w.heap.size < wr.heap.size := by omega
    have hz1 := hB.size
    have HO := Aside0.mk hO
    have HB := Aside0.mk hB
    clear hO hB hc he
    by_cases hlt : k < 3
    · have hk3 : k = 0 ∨ k = 1 ∨ k = 2 := by omega
      rcases hk3 with rfl | rfl | rfl
      · have f0 := hE 0 _ rfl
        have f1 := hE 1 _ rfl
        clear hE
        go_wp2_with (at_builtin; refine app1 k65 w2.heap.size (.tmp 65) (.tmp 83) 34 65 (.agg #[.int .i64 0, .int .i64 0, .int .i64 0]) 24 _ (edgeL a b h 0) ⟨⟨a, b⟩, 1 - h⟩ [.int .i64 a, .int .i64 b, .int .i64 (1 - h)] _ rfl rfl Tryd.underlying34 info65 rfl (by decide) (by decide) rfl (by simp; done) rfl (k65_mkM _ _ _ _) (Kd.R_alloc HO.out _) (below_alloc2 HB.out (by omega) _) (by simp; omega) (by simp [edgeL]) ?_; intro v1 w3 ho3 hb3; have HO3 := Aside0.mk ho3; have HB3 := Aside0.mk hb3; clear ho3 hb3)
        go_roundw
        case rel => exact ⟨1, by omega, rfl, by have := HO3.out; simpa [edgeL, edgeP] using this, HB3.out⟩
        case measure => simp [intOf]
      · have f0 := hE 2 _ rfl
        have f1 := hE 3 _ rfl
        clear hE
        go_wp2_with (at_builtin; refine app1 k65 w2.heap.size (.tmp 65) (.tmp 83) 34 65 (.agg #[.int .i64 0, .int .i64 0, .int .i64 0]) 24 _ (edgeL a b h 1) ⟨⟨a + (2 * h - 1), b⟩, 1 - h⟩ [.int .i64 (a + (2 * h - 1)), .int .i64 b, .int .i64 (1 - h)] _ rfl rfl Tryd.underlying34 info65 rfl (by decide) (by decide) rfl (by simp; done) rfl (k65_mkM _ _ _ _) (Kd.R_alloc HO.out _) (below_alloc2 HB.out (by omega) _) (by simp; omega) (by simp [edgeL, edgeP]) ?_; intro v1 w3 ho3 hb3; have HO3 := Aside0.mk ho3; have HB3 := Aside0.mk hb3; clear ho3 hb3)
        go_roundw
        case rel => exact ⟨2, by omega, rfl, by have := HO3.out; simpa [edgeL, edgeP] using this, HB3.out⟩
        case measure => simp [intOf]
      · have f0 := hE 4 _ rfl
        have f1 := hE 5 _ rfl
        clear hE
        go_wp2_with (at_builtin; refine app1 k65 w2.heap.size (.tmp 65) (.tmp 83) 34 65 (.agg #[.int .i64 0, .int .i64 0, .int .i64 0]) 24 _ (edgeL a b h 2) ⟨⟨a, b + (2 * h - 1)⟩, 1 - h⟩ [.int .i64 a, .int .i64 (b + (2 * h - 1)), .int .i64 (1 - h)] _ rfl rfl Tryd.underlying34 info65 rfl (by decide) (by decide) rfl (by simp; done) rfl (k65_mkM _ _ _ _) (Kd.R_alloc HO.out _) (below_alloc2 HB.out (by omega) _) (by simp; omega) (by simp [edgeL, edgeP]) ?_; intro v1 w3 ho3 hb3; have HO3 := Aside0.mk ho3; have HB3 := Aside0.mk hb3; clear ho3 hb3)
        go_roundw
        case rel => exact ⟨3, by omega, rfl, by have := HO3.out; simpa [edgeL, edgeP] using this, HB3.out⟩
        case measure => simp [intOf]
    · obtain rfl : k = 3 := by omega
      go_wp2
      go_ret
      exact ⟨_, rfl, Kd.R_lower HO.out (by omega), (HB2.out.trans (HB.out.mono (by omega)))⟩

def cornP (a b h : Int) : List (Int × Int) := if h = 0 then [(a, b), (a + 1, b), (a, b + 1)] else [(a + 1, b), (a, b + 1), (a + 1, b + 1)]
def aroundL (a b : Int) : List S65 := [⟨⟨a, b⟩, 0⟩, ⟨⟨a - 1, b⟩, 1⟩, ⟨⟨a - 1, b⟩, 0⟩, ⟨⟨a, b - 1⟩, 1⟩, ⟨⟨a, b - 1⟩, 0⟩, ⟨⟨a - 1, b - 1⟩, 1⟩]
def vertL (a b h : Int) (k : Nat) : List S65 := ((cornP a b h).take k).flatMap fun p => aroundL p.1 p.2

theorem around_f (a b : Int) (ha : -5498046511104 ≤ a) (ha' : a ≤ 5498046511104) (hb : -5498046511104 ≤ b) (hb' : b ≤ 5498046511104) : cell_around.f 4 a b = some (aroundL a b) := by
  have w1 : wrap64 a = a := by unfold wrap64; omega
  have w2 : wrap64 b = b := by unfold wrap64; omega
  have w3 : wrap64 (a + -1) = a - 1 := by unfold wrap64; omega
  have w4 : wrap64 (b + -1) = b - 1 := by unfold wrap64; omega
  have e0 : wrap64 1 = 1 := by unfold wrap64; omega
  have e1 : wrap64 2 = 2 := by unfold wrap64; omega
  have e2 : wrap64 3 = 3 := by unfold wrap64; omega
  simp [cell_around.f, cell_around.l0, rd_T63, aroundL, w1, w2, w3, w4, e0, e1, e2]

theorem around_any (a b : Int) (w : World) (ha : -5498046511104 ≤ a) (ha' : a ≤ 5498046511104) (hb : -5498046511104 ≤ b) (hb' : b ≤ 5498046511104) :
    Calls Tryd.prog 125 #[.agg #[.int .i64 a, .int .i64 b]] w fun e w' => ∃ v0_ : Value, e = .returned (v0_) ∧ Kd.R k65 65 w' w.heap.size (fun _ => True) v0_ (aroundL a b) ∧ Below w.heap.size w w' :=
  cell_around.calls 4 a b _ w (around_f a b ha ha' hb hb')

def cornersV (a b h : Int) : Value := if h = 0 then .agg #[.int .i64 a, .int .i64 b, .int .i64 (a + 1), .int .i64 b, .int .i64 a, .int .i64 (b + 1)] else .agg #[.int .i64 (a + 1), .int .i64 b, .int .i64 a, .int .i64 (b + 1), .int .i64 (a + 1), .int .i64 (b + 1)]

theorem corners_any (a b h : Int) (w : World) (ha : -4398046511104 ≤ a) (ha' : a ≤ 4398046511104) (hb : -4398046511104 ≤ b) (hb' : b ≤ 4398046511104) :
    Calls Tryd.prog 124 #[.agg #[.int .i64 a, .int .i64 b, .int .i64 h]] w fun e w' => e = .returned (cornersV a b h) ∧ Below w.heap.size w w' := by
  by_cases hh : h = 0
  all_goals
    go_enter Tryd.func124, Tryd.ntmps124
    go_wp2
    go_quiet (fail)
    go_wp2
  · exact bodyPost_ret (v := .agg #[.int .i64 a, .int .i64 b, .int .i64 (a + 1), .int .i64 b, .int .i64 a, .int .i64 (b + 1)]) (by simp [results, Tryd.results124, go_sem]) rfl ⟨by rw [cornersV, if_pos hh], (by with_reducible repeat (first | apply below_alloc | apply pw_below_drewN | apply below_drew | refine bset ?_ _ _ (by omega) _ | exact Below.refl _ _))⟩
  · exact bodyPost_ret (v := .agg #[.int .i64 (a + 1), .int .i64 b, .int .i64 a, .int .i64 (b + 1), .int .i64 (a + 1), .int .i64 (b + 1)]) (by simp [results, Tryd.results124, go_sem]) rfl ⟨by rw [cornersV, if_neg hh], (by with_reducible repeat (first | apply below_alloc | apply pw_below_drewN | apply below_drew | refine bset ?_ _ _ (by omega) _ | exact Below.refl _ _))⟩

theorem corn_index (a b h : Int) (k : Nat) (hk : k < 3) : ∃ x y : Int, (cornP a b h)[k]? = some (x, y) ∧ a ≤ x ∧ x ≤ a + 1 ∧ b ≤ y ∧ y ≤ b + 1 ∧ ∀ w : World, (Instr.index 201 (cornersV a b h) (.int .i64 k)).run Tryd.prog w = .ok (.agg #[.int .i64 x, .int .i64 y]) w := by
  have hk3 : k = 0 ∨ k = 1 ∨ k = 2 := by omega
  unfold cornP cornersV
  by_cases hh : h = 0
  · simp only [hh, ↓reduceIte]
    rcases hk3 with rfl | rfl | rfl
    · exact ⟨a, b, rfl, by omega, by omega, by omega, by omega, fun w => by kernel_rfl⟩
    · exact ⟨a + 1, b, rfl, by omega, by omega, by omega, by omega, fun w => by kernel_rfl⟩
    · exact ⟨a, b + 1, rfl, by omega, by omega, by omega, by omega, fun w => by kernel_rfl⟩
  · simp only [hh, ↓reduceIte]
    rcases hk3 with rfl | rfl | rfl
    · exact ⟨a + 1, b, rfl, by omega, by omega, by omega, by omega, fun w => by kernel_rfl⟩
    · exact ⟨a, b + 1, rfl, by omega, by omega, by omega, by omega, fun w => by kernel_rfl⟩
    · exact ⟨a + 1, b + 1, rfl, by omega, by omega, by omega, by omega, fun w => by kernel_rfl⟩

theorem vertL_succ {a b h : Int} (k : Nat) {x y : Int} (hx : (cornP a b h)[k]? = some (x, y)) : vertL a b h (k + 1) = vertL a b h k ++ aroundL x y := by
  unfold vertL
  rw [List.take_add_one, hx]
  simp
theorem vertL_len (a b h : Int) (k : Nat) : (vertL a b h k).length ≤ 18 := by
  have h3 : (cornP a b h).length = 3 := by unfold cornP; split <;> rfl
  have : ∀ l : List (Int × Int), (l.flatMap fun p => aroundL p.1 p.2).length = 6 * l.length := by
    intro l
    induction l with
    | nil => rfl
    | cons p l ih => rw [List.flatMap_cons, List.length_append, ih, List.length_cons]; simp [aroundL]; omega
  unfold vertL
  rw [this, List.length_take]
  omega

set_option maxRecDepth 100000 in
set_option maxHeartbeats 1000000 in
theorem near_vert (l a b h : Int) (w : World) (hl1 : ¬ l = 1) (hl2 : ¬ l = 2) (ha : -4398046511104 ≤ a) (ha' : a ≤ 4398046511104) (hb : -4398046511104 ≤ b) (hb' : b ≤ 4398046511104) :
    Calls Tryd.prog 106 #[.int .i64 l, .agg #[.int .i64 a, .int .i64 b, .int .i64 h]] w fun e w' => ∃ v : Value, e = .returned v ∧ Kd.R k65 65 w' w.heap.size (fun _ => True) v (vertL a b h 3) ∧ Below w.heap.size w w' := by
  go_enter Tryd.func106, Tryd.ntmps106
  go_wp2_with fail
  obtain ⟨w1, hw1, hc, hsz, hB1⟩ := one_new w #[.int .i64 a, .int .i64 b, .int .i64 h] 65
  rw [← hw1]
  clear hw1
  have HB1 := Aside0.mk hB1
  clear hB1
  refine (corners_any a b h w1 ha ha' hb hb').mono ?_
  rintro e w2 ⟨rfl, hb2⟩
  have HB2 := Aside0.mk hb2
  clear hb2 hc
  have HIX := Aside0.mk (corn_index a b h)
  generalize cornersV a b h = cv at HIX ⊢
  go_wp2
  go_loopw [5, 16] (fun v i wr => ∃ k : Nat, k ≤ 3 ∧ i = .int .i64 k ∧ Kd.R k65 65 wr w1.heap.size (fun _ => True) v (vertL a b h k) ∧ Below w1.heap.size w1 wr) (fun _ i _ => 3 - (intOf i).toNat)
  case atStart => exact ⟨0, by omega, rfl, Kd.R_nil _ _ _ _ _, HB2.out⟩
  case round =>
    obtain ⟨k, hk, rfl, hO, hB⟩ := hrel
    have HO := Aside0.mk hO
    have HB := Aside0.mk hB
    clear hO hB HB2
    by_cases hlt : k < 3
    · obtain ⟨x, y, ex, x1, x2, y1, y2, hix⟩ := HIX.out k hlt
      have EX := Aside0.mk ex
      clear ex HIX
      have hz1 := HB.out.size
      have hl := vertL_len a b h k
      have hla : (aroundL x y).length = 6 := rfl
      go_wp2_with (first
        | (go_at_call 125; refine (around_any x y _ (by omega) (by omega) (by omega) (by omega)).mono ?_; rintro e w3 ⟨v3, rfl, ho3, hb3⟩; obtain ⟨A3, c3, rfl, hl3, hc3⟩ := Kd.R_reads ho3; have HC3 := Aside0.mk hc3; have HB3 := Aside0.mk hb3; clear ho3 hc3 hb3 hix)
        | (at_builtin; refine appN k65 w1.heap.size (.tmp 19) (.tmp 21) 34 65 (.agg #[.int .i64 0, .int .i64 0, .int .i64 0]) 24 _ (vertL a b h k) (aroundL x y) A3 c3 rfl rfl Tryd.underlying34 info65 rfl (by decide) (by decide) rfl rfl (fun x cs h => by obtain rfl := k65_open h; exact k65_mkM _ _ _ _) (Kd.R_below (Kd.R_alloc HO.out _) HB3.out) HC3.out ((below_alloc2 HB.out (by omega) _).trans (HB3.out.mono (by simp; omega))) (Nat.le_trans (by simp; omega) HB3.out.size) (by omega) ?_; intro v1 w4 ho4 hb4; have HO4 := Aside0.mk ho4; have HB4 := Aside0.mk hb4; clear ho4 hb4))
      go_roundw
      case rel => exact ⟨k + 1, by omega, by go_num, by rw [vertL_succ k EX.out]; exact HO4.out, HB4.out⟩
      case measure => simp [intOf]; omega
    · obtain rfl : k = 3 := by omega
      go_wp2
      go_ret
      exact ⟨_, rfl, Kd.R_lower HO.out (by omega), (HB1.out.trans (HB.out.mono (by omega)))⟩
end Go.Proofs.YtaeenefdbahfoaaDoor
