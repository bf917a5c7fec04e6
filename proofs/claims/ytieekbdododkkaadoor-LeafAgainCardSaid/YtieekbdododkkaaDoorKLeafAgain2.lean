/- Parts of the proof of LeafAgain, merged out of our texts by wip/tools/pack.py. -/
import Derived.Test.YtieekbdododkkaaDoorKLeafAgain0
import Derived.Test.YtieekbdododkkaaDoorKLeafAgain1
import Derived.Shelf.SlSortCmp.NoneTotal
import Derived.Shelf.SlSortCmp.WholeK
import Derived.Shelf.Lay
import Derived.Shelf.SlGeneric
import Derived.Test.YtieekbdododkkaaDoorProg
import Derived.Lib.SlicesCompact
namespace Go.Proofs.YtieekbdododkkaaDoor
set_option linter.unusedSimpArgs false
set_option linter.unusedVariables false
set_option maxRecDepth 100000
set_option maxHeartbeats 16000000
open Go.RowKit Go.Proofs.YtieekbdododkkaaDoorW.PrintWords Go.Proofs.YtieekbdododkkaaDoorW.PrintLast Go.Proofs.YtieekbdododkkaaDoorW.PrintMore
open H
theorem box3 (w : World) (x y z : Value) (t : Nat) : ∃ w1, w1 = w.alloc (.cells #[x, y, z] t) ∧ w1.cell? ⟨w.heap.size, 0, none⟩ = some x ∧ w1.cell? ⟨w.heap.size, 1, none⟩ = some y ∧ w1.cell? ⟨w.heap.size, 2, none⟩ = some z ∧ w.heap.size < w1.heap.size ∧ Below w.heap.size w w1 :=
  ⟨_, rfl, by simp, by simp, by simp, by simp, below_alloc (Below.refl _ _) _⟩
theorem six_index (k : Nat) (hk : k < 6) : ∃ x y : Int, -1 ≤ x ∧ x ≤ 1 ∧ -1 ≤ y ∧ y ≤ 1 ∧ sixI[2 * k]? = some x ∧ sixI[2 * k + 1]? = some y ∧ ∀ w : World, (Instr.index 96 (.agg #[.int .i64 1, .int .i64 0, .int .i64 0, .int .i64 1, .int .i64 (-1), .int .i64 1, .int .i64 (-1), .int .i64 0, .int .i64 0, .int .i64 (-1), .int .i64 1, .int .i64 (-1)]) (.int .i64 k)).run Tryd.prog w = .ok (.agg #[.int .i64 x, .int .i64 y]) w := by
  have : k = 0 ∨ k = 1 ∨ k = 2 ∨ k = 3 ∨ k = 4 ∨ k = 5 := by omega
  rcases this with rfl | rfl | rfl | rfl | rfl | rfl
  · exact ⟨1, 0, by decide, by decide, by decide, by decide, rfl, rfl, fun w => by kernel_rfl⟩
  · exact ⟨0, 1, by decide, by decide, by decide, by decide, rfl, rfl, fun w => by kernel_rfl⟩
  · exact ⟨-1, 1, by decide, by decide, by decide, by decide, rfl, rfl, fun w => by kernel_rfl⟩
  · exact ⟨-1, 0, by decide, by decide, by decide, by decide, rfl, rfl, fun w => by kernel_rfl⟩
  · exact ⟨0, -1, by decide, by decide, by decide, by decide, rfl, rfl, fun w => by kernel_rfl⟩
  · exact ⟨1, -1, by decide, by decide, by decide, by decide, rfl, rfl, fun w => by kernel_rfl⟩
def sixP : List (Int × Int) := [(1, 0), (0, 1), (-1, 1), (-1, 0), (0, -1), (1, -1)]
def hexL (a b : Int) (k : Nat) : List S47 := (sixP.take k).map fun p => ⟨⟨a + p.1, b + p.2⟩, 0⟩
theorem hexL_succ {a b : Int} (k : Nat) (hk : k < 6) {x y : Int} (hx : sixI[2 * k]? = some x) (hy : sixI[2 * k + 1]? = some y) : hexL a b (k + 1) = hexL a b k ++ [⟨⟨a + x, b + y⟩, 0⟩] := by
  have : k = 0 ∨ k = 1 ∨ k = 2 ∨ k = 3 ∨ k = 4 ∨ k = 5 := by omega
  rcases this with rfl | rfl | rfl | rfl | rfl | rfl <;> (simp [sixI] at hx hy; subst hx; subst hy; simp [hexL, sixP])
theorem near_hex (a b h : Int) (w : World) (hG : Six w) (ha : -4398046511104 ≤ a) (ha' : a ≤ 4398046511104) (hb : -4398046511104 ≤ b) (hb' : b ≤ 4398046511104) :
    Calls Tryd.prog 64 #[.int .i64 1, .agg #[.int .i64 a, .int .i64 b, .int .i64 h]] w fun e w' => ∃ v : Value, e = .returned v ∧ Kd.R k47 47 w' w.heap.size (fun _ => True) v (hexL a b 6) ∧ Below w.heap.size w w' := by
  go_enter Tryd.func64, Tryd.ntmps64
  go_wp2_with fail
  obtain ⟨w1, hw1, c0, c1, c2, hsz, hB1⟩ := box3 w (.int .i64 a) (.int .i64 b) (.int .i64 h) 47
  rw [← hw1]
  have hG1 := hG.below hB1
  clear hw1
  refine (six_any w1 hG1).mono ?_
  rintro e w2 ⟨rfl, hb2⟩
  have HB1 := Aside0.mk hB1
  have HB2 := Aside0.mk hb2
  clear hB1 hb2
  unfold sixVal
  go_wp2
  go_loopw [5, 27] (fun v i wr => ∃ k : Nat, k ≤ 6 ∧ i = .int .i64 k ∧ Kd.R k47 47 wr w1.heap.size (fun _ => True) v (hexL a b k) ∧ Below w1.heap.size w1 wr) (fun _ i _ => 6 - (intOf i).toNat)
  case atStart => exact ⟨0, by omega, rfl, Kd.R_nil _ _ _ _ _, HB2.out⟩
  case round =>
    obtain ⟨k, hk, rfl, hO, hB⟩ := hrel
    have d0 := (hB.cell (p := ⟨w.heap.size, 0, none⟩) hsz).trans c0
    have d1 := (hB.cell (p := ⟨w.heap.size, 1, none⟩) hsz).trans c1
    have hzr : w.heap.size < wr.heap.size := Nat.lt_of_lt_of_le hsz hB.size
    have HO := Aside0.mk hO
    have HB := Aside0.mk hB
    clear hO hB c0 c1 c2 HB2
    by_cases hlt : k < 6
    · obtain ⟨x, y, x1, x2, y1, y2, ex, ey, hix⟩ := six_index k hlt
      have EX := Aside0.mk ex
      have EY := Aside0.mk ey
      clear ex ey
      have hz1 := HB.out.size
      have hl : (hexL a b k).length ≤ 6 := by simp [hexL, sixP]; omega
      go_wp2_with (at_builtin; refine app1 k47 w1.heap.size (.tmp 30) (.tmp 45) 100 47 (.agg #[.int .i64 0, .int .i64 0, .int .i64 0]) 24 _ (hexL a b k) ⟨⟨a + x, b + y⟩, 0⟩ [.int .i64 (a + x), .int .i64 (b + y), .int .i64 0] _ rfl rfl Tryd.underlying100 info47 rfl (by decide) (by decide) rfl (by simp; done) rfl (k47_mkM _ _ _ _) (Kd.R_alloc HO.out _) (below_alloc2 HB.out (by omega) _) (by simp; omega) (by omega) ?_; intro v1 w3 ho3 hb3; have HO3 := Aside0.mk ho3; have HB3 := Aside0.mk hb3; clear ho3 hb3)
      go_roundw
      case rel => exact ⟨k + 1, by omega, by go_num, by rw [hexL_succ k hlt EX.out EY.out]; exact HO3.out, HB3.out⟩
      case measure => simp [intOf]; omega
    · obtain rfl : k = 6 := by omega
      go_wp2
      go_ret
      exact ⟨_, rfl, Kd.R_lower HO.out (by omega), (HB1.out.trans (HB.out.mono (by omega)))⟩
def edgeP (d : Int) : List (Int × Int) := [(0, 0), (d, 0), (0, d)]
def edgeL (a b h : Int) (k : Nat) : List S47 := ((edgeP (2 * h - 1)).take k).map fun p => ⟨⟨a + p.1, b + p.2⟩, 1 - h⟩
theorem near_edge (a b h : Int) (w : World) (ha : -4398046511104 ≤ a) (ha' : a ≤ 4398046511104) (hb : -4398046511104 ≤ b) (hb' : b ≤ 4398046511104) (hh0 : 0 ≤ h) (hh1 : h ≤ 1) :
    Calls Tryd.prog 64 #[.int .i64 2, .agg #[.int .i64 a, .int .i64 b, .int .i64 h]] w fun e w' => ∃ v : Value, e = .returned v ∧ Kd.R k47 47 w' w.heap.size (fun _ => True) v (edgeL a b h 3) ∧ Below w.heap.size w w' := by
  go_enter Tryd.func64, Tryd.ntmps64
  go_wp2_with fail
  obtain ⟨w2, hw2, hc, he, hsz, hB2⟩ := two_new w #[.int .i64 a, .int .i64 b, .int .i64 h] #[.int .i64 0, .int .i64 0, .int .i64 (2 * h - 1), .int .i64 0, .int .i64 0, .int .i64 (2 * h - 1)] 47 45
  rw [← hw2]
  clear hw2
  have HB2 := Aside0.mk hB2
  clear hB2
  go_loopw [5, 61] (fun v i wr => ∃ k : Nat, k ≤ 3 ∧ i = .int .i64 k ∧ Kd.R k47 47 wr w2.heap.size (fun _ => True) v (edgeL a b h k) ∧ Below w2.heap.size w2 wr) (fun _ i _ => 3 - (intOf i).toNat)
  case atStart => exact ⟨0, by omega, rfl, Kd.R_nil _ _ _ _ _, Below.refl _ _⟩
  case round =>
    obtain ⟨k, hk, rfl, hO, hB⟩ := hrel
    have d0 := (hB.cell (p := ⟨w.heap.size, 0, none⟩) (by show w.heap.size < _; omega)).trans (hc 0 _ rfl)
    have d1 := (hB.cell (p := ⟨w.heap.size, 1, none⟩) (by show w.heap.size < _; omega)).trans (hc 1 _ rfl)
    have d2 := (hB.cell (p := ⟨w.heap.size, 2, none⟩) (by show w.heap.size < _; omega)).trans (hc 2 _ rfl)
    have hE : ∀ j v, (#[.int .i64 0, .int .i64 0, .int .i64 (2 * h - 1), .int .i64 0, .int .i64 0, .int .i64 (2 * h - 1)] : Array Value)[j]? = some v → wr.cell? ⟨w.heap.size + 1, j, none⟩ = some v := fun j v hv => (hB.cell (p := ⟨w.heap.size + 1, j, none⟩) (by show w.heap.size + 1 < _; omega)).trans (he j v hv)
    have hzr : w.heap.size + 1 < wr.heap.size := Nat.lt_of_lt_of_le hsz hB.size
    have hzr0 : w.heap.size < wr.heap.size := by omega
    have hz1 := hB.size
    have HO := Aside0.mk hO
    have HB := Aside0.mk hB
    clear hO hB hc he
    by_cases hlt : k < 3
    · have hk3 : k = 0 ∨ k = 1 ∨ k = 2 := by omega
      rcases hk3 with rfl | rfl | rfl
      · have f0 := hE 0 _ rfl
        have f1 := hE 1 _ rfl
        clear hE
        go_wp2_with (at_builtin; refine app1 k47 w2.heap.size (.tmp 65) (.tmp 83) 100 47 (.agg #[.int .i64 0, .int .i64 0, .int .i64 0]) 24 _ (edgeL a b h 0) ⟨⟨a, b⟩, 1 - h⟩ [.int .i64 a, .int .i64 b, .int .i64 (1 - h)] _ rfl rfl Tryd.underlying100 info47 rfl (by decide) (by decide) rfl (by simp; done) rfl (k47_mkM _ _ _ _) (Kd.R_alloc HO.out _) (below_alloc2 HB.out (by omega) _) (by simp; omega) (by simp [edgeL]) ?_; intro v1 w3 ho3 hb3; have HO3 := Aside0.mk ho3; have HB3 := Aside0.mk hb3; clear ho3 hb3)
        go_roundw
        case rel => exact ⟨1, by omega, rfl, by have := HO3.out; simpa [edgeL, edgeP] using this, HB3.out⟩
        case measure => simp [intOf]
      · have f0 := hE 2 _ rfl
        have f1 := hE 3 _ rfl
        clear hE
        go_wp2_with (at_builtin; refine app1 k47 w2.heap.size (.tmp 65) (.tmp 83) 100 47 (.agg #[.int .i64 0, .int .i64 0, .int .i64 0]) 24 _ (edgeL a b h 1) ⟨⟨a + (2 * h - 1), b⟩, 1 - h⟩ [.int .i64 (a + (2 * h - 1)), .int .i64 b, .int .i64 (1 - h)] _ rfl rfl Tryd.underlying100 info47 rfl (by decide) (by decide) rfl (by simp; done) rfl (k47_mkM _ _ _ _) (Kd.R_alloc HO.out _) (below_alloc2 HB.out (by omega) _) (by simp; omega) (by simp [edgeL, edgeP]) ?_; intro v1 w3 ho3 hb3; have HO3 := Aside0.mk ho3; have HB3 := Aside0.mk hb3; clear ho3 hb3)
        go_roundw
        case rel => exact ⟨2, by omega, rfl, by have := HO3.out; simpa [edgeL, edgeP] using this, HB3.out⟩
        case measure => simp [intOf]
      · have f0 := hE 4 _ rfl
        have f1 := hE 5 _ rfl
        clear hE
        go_wp2_with (at_builtin; refine app1 k47 w2.heap.size (.tmp 65) (.tmp 83) 100 47 (.agg #[.int .i64 0, .int .i64 0, .int .i64 0]) 24 _ (edgeL a b h 2) ⟨⟨a, b + (2 * h - 1)⟩, 1 - h⟩ [.int .i64 a, .int .i64 (b + (2 * h - 1)), .int .i64 (1 - h)] _ rfl rfl Tryd.underlying100 info47 rfl (by decide) (by decide) rfl (by simp; done) rfl (k47_mkM _ _ _ _) (Kd.R_alloc HO.out _) (below_alloc2 HB.out (by omega) _) (by simp; omega) (by simp [edgeL, edgeP]) ?_; intro v1 w3 ho3 hb3; have HO3 := Aside0.mk ho3; have HB3 := Aside0.mk hb3; clear ho3 hb3)
        go_roundw
        case rel => exact ⟨3, by omega, rfl, by have := HO3.out; simpa [edgeL, edgeP] using this, HB3.out⟩
        case measure => simp [intOf]
    · obtain rfl : k = 3 := by omega
      go_wp2
      go_ret
      exact ⟨_, rfl, Kd.R_lower HO.out (by omega), (HB2.out.trans (HB.out.mono (by omega)))⟩
def cornP (a b h : Int) : List (Int × Int) := if h = 0 then [(a, b), (a + 1, b), (a, b + 1)] else [(a + 1, b), (a, b + 1), (a + 1, b + 1)]
def aroundL (a b : Int) : List S47 := [⟨⟨a, b⟩, 0⟩, ⟨⟨a - 1, b⟩, 1⟩, ⟨⟨a - 1, b⟩, 0⟩, ⟨⟨a, b - 1⟩, 1⟩, ⟨⟨a, b - 1⟩, 0⟩, ⟨⟨a - 1, b - 1⟩, 1⟩]
def vertL (a b h : Int) (k : Nat) : List S47 := ((cornP a b h).take k).flatMap fun p => aroundL p.1 p.2
theorem around_f (a b : Int) (ha : -5498046511104 ≤ a) (ha' : a ≤ 5498046511104) (hb : -5498046511104 ≤ b) (hb' : b ≤ 5498046511104) : cell_around.f 4 a b = some (aroundL a b) := by
  have w1 : wrap64 a = a := by unfold wrap64; omega
  have w2 : wrap64 b = b := by unfold wrap64; omega
  have w3 : wrap64 (a + -1) = a - 1 := by unfold wrap64; omega
  have w4 : wrap64 (b + -1) = b - 1 := by unfold wrap64; omega
  have e0 : wrap64 1 = 1 := by unfold wrap64; omega
  have e1 : wrap64 2 = 2 := by unfold wrap64; omega
  have e2 : wrap64 3 = 3 := by unfold wrap64; omega
  simp [cell_around.f, cell_around.l0, rd_T45, aroundL, w1, w2, w3, w4, e0, e1, e2]
theorem around_any (a b : Int) (w : World) (ha : -5498046511104 ≤ a) (ha' : a ≤ 5498046511104) (hb : -5498046511104 ≤ b) (hb' : b ≤ 5498046511104) :
    Calls Tryd.prog 76 #[.agg #[.int .i64 a, .int .i64 b]] w fun e w' => ∃ v0_ : Value, e = .returned (v0_) ∧ Kd.R k47 47 w' w.heap.size (fun _ => True) v0_ (aroundL a b) ∧ Below w.heap.size w w' :=
  cell_around.calls 4 a b _ w (around_f a b ha ha' hb hb')
def cornersV (a b h : Int) : Value := if h = 0 then .agg #[.int .i64 a, .int .i64 b, .int .i64 (a + 1), .int .i64 b, .int .i64 a, .int .i64 (b + 1)] else .agg #[.int .i64 (a + 1), .int .i64 b, .int .i64 a, .int .i64 (b + 1), .int .i64 (a + 1), .int .i64 (b + 1)]
theorem corners_any (a b h : Int) (w : World) (ha : -4398046511104 ≤ a) (ha' : a ≤ 4398046511104) (hb : -4398046511104 ≤ b) (hb' : b ≤ 4398046511104) :
    Calls Tryd.prog 75 #[.agg #[.int .i64 a, .int .i64 b, .int .i64 h]] w fun e w' => e = .returned (cornersV a b h) ∧ Below w.heap.size w w' := by
  by_cases hh : h = 0
  all_goals
    go_enter Tryd.func75, Tryd.ntmps75
    go_wp2
    go_quiet (fail)
    go_wp2
  · exact bodyPost_ret (v := .agg #[.int .i64 a, .int .i64 b, .int .i64 (a + 1), .int .i64 b, .int .i64 a, .int .i64 (b + 1)]) (by simp [results, Tryd.results75, go_sem]) rfl ⟨by rw [cornersV, if_pos hh], (by with_reducible repeat (first | apply below_alloc | apply pw_below_drewN | apply below_drew | refine bset ?_ _ _ (by omega) _ | exact Below.refl _ _))⟩
  · exact bodyPost_ret (v := .agg #[.int .i64 (a + 1), .int .i64 b, .int .i64 a, .int .i64 (b + 1), .int .i64 (a + 1), .int .i64 (b + 1)]) (by simp [results, Tryd.results75, go_sem]) rfl ⟨by rw [cornersV, if_neg hh], (by with_reducible repeat (first | apply below_alloc | apply pw_below_drewN | apply below_drew | refine bset ?_ _ _ (by omega) _ | exact Below.refl _ _))⟩
theorem corn_index (a b h : Int) (k : Nat) (hk : k < 3) : ∃ x y : Int, (cornP a b h)[k]? = some (x, y) ∧ a ≤ x ∧ x ≤ a + 1 ∧ b ≤ y ∧ y ≤ b + 1 ∧ ∀ w : World, (Instr.index 150 (cornersV a b h) (.int .i64 k)).run Tryd.prog w = .ok (.agg #[.int .i64 x, .int .i64 y]) w := by
  have hk3 : k = 0 ∨ k = 1 ∨ k = 2 := by omega
  unfold cornP cornersV
  by_cases hh : h = 0
  · simp only [hh, ↓reduceIte]
    rcases hk3 with rfl | rfl | rfl
    · exact ⟨a, b, rfl, by omega, by omega, by omega, by omega, fun w => by kernel_rfl⟩
    · exact ⟨a + 1, b, rfl, by omega, by omega, by omega, by omega, fun w => by kernel_rfl⟩
    · exact ⟨a, b + 1, rfl, by omega, by omega, by omega, by omega, fun w => by kernel_rfl⟩
  · simp only [hh, ↓reduceIte]
    rcases hk3 with rfl | rfl | rfl
    · exact ⟨a + 1, b, rfl, by omega, by omega, by omega, by omega, fun w => by kernel_rfl⟩
    · exact ⟨a, b + 1, rfl, by omega, by omega, by omega, by omega, fun w => by kernel_rfl⟩
    · exact ⟨a + 1, b + 1, rfl, by omega, by omega, by omega, by omega, fun w => by kernel_rfl⟩
theorem vertL_succ {a b h : Int} (k : Nat) {x y : Int} (hx : (cornP a b h)[k]? = some (x, y)) : vertL a b h (k + 1) = vertL a b h k ++ aroundL x y := by
  unfold vertL
  rw [List.take_add_one, hx]
  simp
theorem vertL_len (a b h : Int) (k : Nat) : (vertL a b h k).length ≤ 18 := by
  have h3 : (cornP a b h).length = 3 := by unfold cornP; split <;> rfl
  have : ∀ l : List (Int × Int), (l.flatMap fun p => aroundL p.1 p.2).length = 6 * l.length := by
    intro l
    induction l with
    | nil => rfl
    | cons p l ih => rw [List.flatMap_cons, List.length_append, ih, List.length_cons]; simp [aroundL]; omega
  unfold vertL
  rw [this, List.length_take]
  omega
theorem near_vert (l a b h : Int) (w : World) (hl1 : ¬ l = 1) (hl2 : ¬ l = 2) (ha : -4398046511104 ≤ a) (ha' : a ≤ 4398046511104) (hb : -4398046511104 ≤ b) (hb' : b ≤ 4398046511104) :
    Calls Tryd.prog 64 #[.int .i64 l, .agg #[.int .i64 a, .int .i64 b, .int .i64 h]] w fun e w' => ∃ v : Value, e = .returned v ∧ Kd.R k47 47 w' w.heap.size (fun _ => True) v (vertL a b h 3) ∧ Below w.heap.size w w' := by
  go_enter Tryd.func64, Tryd.ntmps64
  go_wp2_with fail
  obtain ⟨w1, hw1, hc, hsz, hB1⟩ := one_new w #[.int .i64 a, .int .i64 b, .int .i64 h] 47
  rw [← hw1]
  clear hw1
  have HB1 := Aside0.mk hB1
  clear hB1
  refine (corners_any a b h w1 ha ha' hb hb').mono ?_
  rintro e w2 ⟨rfl, hb2⟩
  have HB2 := Aside0.mk hb2
  clear hb2 hc
  have HIX := Aside0.mk (corn_index a b h)
  generalize cornersV a b h = cv at HIX ⊢
  go_wp2
  go_loopw [5, 16] (fun v i wr => ∃ k : Nat, k ≤ 3 ∧ i = .int .i64 k ∧ Kd.R k47 47 wr w1.heap.size (fun _ => True) v (vertL a b h k) ∧ Below w1.heap.size w1 wr) (fun _ i _ => 3 - (intOf i).toNat)
  case atStart => exact ⟨0, by omega, rfl, Kd.R_nil _ _ _ _ _, HB2.out⟩
  case round =>
    obtain ⟨k, hk, rfl, hO, hB⟩ := hrel
    have HO := Aside0.mk hO
    have HB := Aside0.mk hB
    clear hO hB HB2
    by_cases hlt : k < 3
    · obtain ⟨x, y, ex, x1, x2, y1, y2, hix⟩ := HIX.out k hlt
      have EX := Aside0.mk ex
      clear ex HIX
      have hz1 := HB.out.size
      have hl := vertL_len a b h k
      have hla : (aroundL x y).length = 6 := rfl
      go_wp2_with (first
        | (go_at_call 76; refine (around_any x y _ (by omega) (by omega) (by omega) (by omega)).mono ?_; rintro e w3 ⟨v3, rfl, ho3, hb3⟩; obtain ⟨A3, c3, rfl, hl3, hc3⟩ := Kd.R_reads ho3; have HC3 := Aside0.mk hc3; have HB3 := Aside0.mk hb3; clear ho3 hc3 hb3 hix)
        | (at_builtin; refine appN k47 w1.heap.size (.tmp 19) (.tmp 21) 100 47 (.agg #[.int .i64 0, .int .i64 0, .int .i64 0]) 24 _ (vertL a b h k) (aroundL x y) A3 c3 rfl rfl Tryd.underlying100 info47 rfl (by decide) (by decide) rfl rfl (fun x cs h => by obtain rfl := k47_open h; exact k47_mkM _ _ _ _) (Kd.R_below (Kd.R_alloc HO.out _) HB3.out) HC3.out ((below_alloc2 HB.out (by omega) _).trans (HB3.out.mono (by simp; omega))) (Nat.le_trans (by simp; omega) HB3.out.size) (by omega) ?_; intro v1 w4 ho4 hb4; have HO4 := Aside0.mk ho4; have HB4 := Aside0.mk hb4; clear ho4 hb4))
      go_roundw
      case rel => exact ⟨k + 1, by omega, by go_num, by rw [vertL_succ k EX.out]; exact HO4.out, HB4.out⟩
      case measure => simp [intOf]; omega
    · obtain rfl : k = 3 := by omega
      go_wp2
      go_ret
      exact ⟨_, rfl, Kd.R_lower HO.out (by omega), (HB1.out.trans (HB.out.mono (by omega)))⟩
section
open Go.Shelf Go.Lib Go.Sort
/-- the order of cells: -1, 0, 1. -/
def cmpCell (x y : S47) : Int :=
  if x.f0.f1 < y.f0.f1 ∨ (x.f0.f1 = y.f0.f1 ∧ (x.f0.f0 < y.f0.f0 ∨ (x.f0.f0 = y.f0.f0 ∧ x.f1 < y.f1))) then -1 else if x.f0.f0 = y.f0.f0 ∧ x.f0.f1 = y.f0.f1 ∧ x.f1 = y.f1 then 0 else 1
def encCell (x : S47) : List Value := [.int .i64 x.f0.f0, .int .i64 x.f0.f1, .int .i64 x.f1]
theorem compare_any (x y : S47) (w : World) :
    Calls Tryd.prog 66 #[.agg #[.int .i64 x.f0.f0, .int .i64 x.f0.f1, .int .i64 x.f1], .agg #[.int .i64 y.f0.f0, .int .i64 y.f0.f1, .int .i64 y.f1]] w fun e w' => e = .returned (.int .i64 (cmpCell x y)) ∧ ∃ q os', w' = grow (w.drewN q) os' := by
  obtain ⟨⟨a, b⟩, h⟩ := x
  obtain ⟨⟨c, d⟩, k⟩ := y
  simp only [cmpCell]
  go_enter Tryd.func66, Tryd.ntmps66
  go_wp2
  all_goals go_ret
  all_goals exact ⟨rfl, 0, _, by simp only [alloc_eq_grow, grow_grow]; rfl⟩
deriving instance DecidableEq for S45
deriving instance DecidableEq for S47
instance : Inhabited S47 := ⟨z47⟩
/-- Block g is a row of cells with room for cap of them; the first ones are d. -/
structure Row3 (w : World) (g cap : Nat) (d : Array S47) : Prop where
  le : d.size ≤ cap
  max : cap ≤ maxLen
  blk : ∃ cur, w.heap[g]? = some (.cells cur 47 (0, 0)) ∧ cur.size = cap * 3 ∧ ∀ j, j < d.size → cur[j * 3]? = some (.int .i64 d[j]!.f0.f0) ∧ cur[j * 3 + 1]? = some (.int .i64 d[j]!.f0.f1) ∧ cur[j * 3 + 2]? = some (.int .i64 d[j]!.f1)
section
variable {w w1 : World} {g cap : Nat} {d : Array S47}
theorem Row3.lt (h : Row3 w g cap d) : g < w.heap.size := by
  obtain ⟨cur, hb, _⟩ := h.blk
  exact (Array.getElem?_eq_some_iff.1 hb).1
theorem Row3.cell (h : Row3 w g cap d) (j : Nat) (hj : j < d.size) : w.cell? ⟨g, j * 3, none⟩ = some (.int .i64 d[j]!.f0.f0) ∧ w.cell? ⟨g, j * 3 + 1, none⟩ = some (.int .i64 d[j]!.f0.f1) ∧ w.cell? ⟨g, j * 3 + 2, none⟩ = some (.int .i64 d[j]!.f1) := by
  obtain ⟨cur, hb, _, hc⟩ := h.blk
  simp only [World.cell?, hb]
  exact hc j hj
theorem Row3.frozen (h : Row3 w g cap d) (o : Nat) : w.frozen? ⟨g, o, none⟩ = false := by
  obtain ⟨cur, hb, _, hc⟩ := h.blk
  simp [World.frozen?, hb]
theorem Row3.of_block (h : Row3 w g cap d) (hb : w1.heap[g]? = w.heap[g]?) : Row3 w1 g cap d := ⟨h.le, h.max, by rw [hb]; exact h.blk⟩
theorem Row3.below (h : Row3 w g cap d) (hb : Below w.heap.size w w1) : Row3 w1 g cap d := h.of_block (hb.block g h.lt)
theorem Row3.grown (h : Row3 w g cap d) {row : Option Nat} (hg : w.grownBy w1 row) (hne : some g ≠ row) : Row3 w1 g cap d := h.of_block (hg.block g h.lt hne)
theorem Row3.set (h : Row3 w g cap d) (i : Nat) (hi : i < d.size) (x : S47) :
    Row3 (((w.setCell ⟨g, i * 3, none⟩ (.int .i64 x.f0.f0)).setCell ⟨g, i * 3 + 1, none⟩ (.int .i64 x.f0.f1)).setCell ⟨g, i * 3 + 2, none⟩ (.int .i64 x.f1)) g cap (d.setIfInBounds i x) := by
  obtain ⟨cur, hb, hs, hc⟩ := h.blk
  refine ⟨by simpa using h.le, h.max, _, blk_set (blk_set (blk_set hb _ _) _ _) _ _, by simp [hs], fun j hj => ?_⟩
  have hj' : j < d.size := by simpa using hj
  have hle := h.le
  have hcs : i * 3 + 2 < cur.size := by omega
  obtain ⟨c0, c1, c2⟩ := hc j hj'
  by_cases e : j = i
  · subst e
    rw [getElem!_set_same d j x hi]
    simp [Array.getElem?_setIfInBounds, show j * 3 < cur.size by omega, show j * 3 + 1 < cur.size by omega, hcs]
  · rw [getElem!_set_other d i j x e]
    simp [Array.getElem?_setIfInBounds, show ¬ i * 3 = j * 3 by omega, show ¬ i * 3 + 1 = j * 3 by omega, show ¬ i * 3 + 2 = j * 3 by omega, show ¬ i * 3 = j * 3 + 1 by omega, show ¬ i * 3 + 1 = j * 3 + 1 by omega, show ¬ i * 3 + 2 = j * 3 + 1 by omega, show ¬ i * 3 = j * 3 + 2 by omega, show ¬ i * 3 + 1 = j * 3 + 2 by omega, show ¬ i * 3 + 2 = j * 3 + 2 by omega, c0, c1, c2]
end
/-- A slice of the call's own: none at all, or a row. -/
theorem row_of_R {w : World} {base : Nat} {ok : Nat → Prop} {v : Value} {xs : List S47} (h : Kd.R k47 47 w base ok v xs) :
    (v = .slice none 0 0 ∧ xs = []) ∨ ∃ g cap, v = .slice (some ⟨g, 0, none⟩) xs.length cap ∧ base ≤ g ∧ ok g ∧ Row3 w g cap xs.toArray := by
  obtain ⟨hok, inner, ho, hr⟩ := h
  obtain ⟨hlen, hc | ⟨g, cap, cur, rfl, hg, hh, h1, h2, h3, h4⟩⟩ := ho
  · exact .inl ⟨hc.1, List.length_eq_zero_iff.1 hc.2⟩
  · refine .inr ⟨g, cap, rfl, hg, hok g (by simp [Value.ownBlock]), by simpa using h1, h2, cur, hh, h3, fun j hj => ?_⟩
    have hj' : j < xs.length := by simpa using hj
    have hm := hr.2 j _ (List.getElem?_eq_getElem hj')
    have hcs := k47_openM hm
    have e : xs.toArray[j]! = xs[j] := by simp [hj']
    rw [e]
    have hin : ∀ t, t < xs.length * 3 → cur[t]? = inner[t]? := fun t ht => by
      rw [← Array.getElem?_toList, ← h4, show xs.length * k47.sz = xs.length * 3 from rfl, List.getElem?_take_of_lt ht]
    have hat : ∀ i, i < 3 → inner[j * 3 + i]? = ((inner.drop (j * 3)).take 3)[i]? := fun i hi => by
      rw [List.getElem?_take_of_lt hi, List.getElem?_drop]
    change (inner.drop (j * 3)).take 3 = _ at hcs
    have h0 := hat 0 (by omega)
    have h1' := hat 1 (by omega)
    have h2' := hat 2 (by omega)
    rw [hcs] at h0 h1' h2'
    exact ⟨by rw [hin _ (by omega)]; exact h0, by rw [hin _ (by omega)]; exact h1', by rw [hin _ (by omega)]; exact h2'⟩
theorem R_of_row {w : World} {base g cap : Nat} {xs : List S47} (h : Row3 w g cap xs.toArray) (hg : base ≤ g) {ok : Nat → Prop} (hok : ok g) :
    Kd.R k47 47 w base ok (.slice (some ⟨g, 0, none⟩) xs.length cap) xs := by
  obtain ⟨cur, hb, hs, hc⟩ := h.blk
  have hle : xs.length ≤ cap := by simpa using h.le
  refine ⟨fun k hk => by have : g = k := by simpa [Value.ownBlock] using hk
                         exact this ▸ hok, cur.toList.take (xs.length * 3), ⟨by show _ = xs.length * 3; simp [hs]; omega, .inr ⟨g, cap, cur, rfl, hg, hb, hle, h.max, hs, rfl⟩⟩, by show _ = xs.length * 3; simp [hs]; omega, fun j p hj => ?_⟩
  obtain ⟨hj', rfl⟩ := List.getElem?_eq_some_iff.1 hj
  obtain ⟨c0, c1, c2⟩ := hc j (by simpa using hj')
  have e : xs.toArray[j]! = xs[j] := by simp [hj']
  rw [e] at c0 c1 c2
  have : ((cur.toList.take (xs.length * 3)).drop (j * 3)).take 3 = [.int .i64 xs[j].f0.f0, .int .i64 xs[j].f0.f1, .int .i64 xs[j].f1] := by
    apply List.ext_getElem?
    intro i
    by_cases hi : i < 3
    · rw [List.getElem?_take_of_lt hi, List.getElem?_drop, List.getElem?_take_of_lt (by omega), Array.getElem?_toList]
      have : i = 0 ∨ i = 1 ∨ i = 2 := by omega
      rcases this with rfl | rfl | rfl
      · exact c0
      · exact c1
      · exact c2
    · rw [List.getElem?_eq_none (by simp; omega), List.getElem?_eq_none (by simp; omega)]
  show (k47.M w base _ xs[j] (((cur.toList.take (xs.length * 3)).drop (j * 3)).take 3))
  rw [this]
  exact k47_mkM _ _ _ _
/-- slices.Compact at cells. -/
theorem holds_row {w : World} {g cap : Nat} {d : Array S47} (h : Row3 w g cap d) : HoldsK encCell 3 w g 0 d := by
  intro t ht
  have ht' : t < d.size * 3 := by simpa using ht
  refine ⟨?_, h.frozen _⟩
  rw [get_flatK _ _ _ _ ht']
  obtain ⟨c0, c1, c2⟩ := h.cell (t / 3) (by omega)
  have hr : t % 3 = 0 ∨ t % 3 = 1 ∨ t % 3 = 2 := by omega
  rcases hr with e | e | e
  · rw [e, show 0 + t = t / 3 * 3 by omega]; exact c0
  · rw [e, show 0 + t = t / 3 * 3 + 1 by omega]; exact c1
  · rw [e, show 0 + t = t / 3 * 3 + 2 by omega]; exact c2
theorem row_sorted {w : World} {g cap n : Nat} {os : Array Obj} {d d' : Array S47} (h : Row3 w g cap d) (hs : d'.size = d.size) : Row3 (sortWorldK encCell 3 w g 0 n d' os) g cap d' ∧ w.grownBy (sortWorldK encCell 3 w g 0 n d' os) (some g) := by
  obtain ⟨cur, hb, hcs, hc⟩ := h.blk
  have hg := h.lt
  have hle := h.le
  have hheap : (sortWorldK encCell 3 w g 0 n d' os).heap[g]? = some (.cells (putCells id 0 (flatK encCell 3 d') cur) 47 (0, 0)) := by
    unfold sortWorldK putRowK
    rw [heap_grow_old _ _ (by simpa using hg)]
    simp [putRow, mapBlock, Sort.ahead, Array.getElem?_modify, hb, onCells]
  refine ⟨⟨by rw [hs]; exact hle, h.max, _, hheap, by simp [putCells, hcs], fun j hj => ?_⟩, rfl, rfl, rfl, by simp [sortWorldK, putRowK], fun k hk hne => ?_⟩
  · have hj' : j < d.size := by omega
    have key : ∀ i, i < 3 → (putCells id 0 (flatK encCell 3 d') cur)[j * 3 + i]? = some ((encCell d'[j]!)[i]!) := fun i hi => by
      have hlt : j * 3 + i < d'.size * 3 := by omega
      have := get_flatK encCell 3 d' (j * 3 + i) hlt
      rw [show (j * 3 + i) / 3 = j by omega, show (j * 3 + i) % 3 = i by omega] at this
      simp only [putCells, Array.getElem?_mapIdx, id]
      rw [Array.getElem?_eq_getElem (show j * 3 + i < cur.size by omega)]
      simp only [Option.map_some, Nat.zero_le, true_and, Nat.zero_add, Nat.sub_zero, size_flatK, hlt, ↓reduceIte, this]
    exact ⟨key 0 (by omega), key 1 (by omega), key 2 (by omega)⟩
  · unfold sortWorldK putRowK
    rw [heap_grow_old _ _ (by simpa using hk)]
    have : g ≠ k := fun e => hne (by rw [e])
    simp [putRow, mapBlock, Sort.ahead, Array.getElem?_modify, this]
theorem lt_cell (x y : S47) : ltOf cmpCell x y = decide (x.f0.f1 < y.f0.f1 ∨ (x.f0.f1 = y.f0.f1 ∧ (x.f0.f0 < y.f0.f0 ∨ (x.f0.f0 = y.f0.f0 ∧ x.f1 < y.f1)))) := by
  unfold ltOf cmpCell
  split
  · simp [*]
  · split <;> simp [*]
theorem swo_cell : SWO (ltOf cmpCell) where
  irrefl x := by rw [lt_cell]; simp
  trans x y z h1 h2 := by rw [lt_cell] at *; simp only [decide_eq_true_eq] at *; omega
  ntrans x y z h1 h2 := by rw [lt_cell] at *; simp only [decide_eq_false_iff_not] at *; omega
theorem tot_cell (x y : S47) (h1 : ltOf cmpCell x y = false) (h2 : ltOf cmpCell y x = false) : x = y := by
  rw [lt_cell] at *
  obtain ⟨⟨a, b⟩, h⟩ := x
  obtain ⟨⟨c, d⟩, k⟩ := y
  simp only [decide_eq_false_iff_not, S47.mk.injEq, S45.mk.injEq] at *
  omega
/-- the list, rising -/
def sortCells (xs : List S47) : List S47 := xs.mergeSort fun x y => !(ltOf cmpCell) y x
end
end Go.Proofs.YtieekbdododkkaaDoor
namespace Go.Proofs
set_option linter.unusedSimpArgs false
set_option linter.unusedVariables false
open Go.Shelf
def Tryd.sortCell_ren : Go.Shelf.Ren := ⟨fun | 6 => 65 | 15 => 78 | 14 => 77 | 28 => 92 | 29 => 93 | 20 => 84 | 21 => 85 | 22 => 86 | 23 => 87 | 24 => 88 | 25 => 89 | 26 => 90 | 27 => 91 | 46 => 95 | 47 => 96 | 48 => 97 | 49 => 98 | 50 => 99 | 57 => 100 | n => n, fun | 22 => 100 | 24 => 47 | 25 => 133 | 3 => 3 | 39 => 109 | 0 => 0 | 53 => 26 | 55 => 22 | 4 => 4 | 46 => 172 | 45 => 171 | 50 => 176 | 5 => 5 | 9 => 9 | 66 => 181 | 70 => 185 | 76 => 187 | 77 => 78 | n => n, fun | n => n⟩
theorem Tryd.sortCell : Go.Proofs.SlLaysF0.n6 Tryd.prog Tryd.sortCell_ren := {
  mixed := by kernel_rfl
  f6 := ⟨Tryd.f65.name, by decide, Tryd.func65.trans (congrArg some (by kernel_rfl))⟩
  f14 := ⟨Tryd.f77.name, by decide, Tryd.func77.trans (congrArg some (by kernel_rfl))⟩
  f15 := Tryd.func78.trans (congrArg some (by kernel_rfl))
  f20 := ⟨Tryd.f84.name, by decide, Tryd.func84.trans (congrArg some (by kernel_rfl))⟩
  f21 := ⟨Tryd.f85.name, by decide, Tryd.func85.trans (congrArg some (by kernel_rfl))⟩
  f22 := ⟨Tryd.f86.name, by decide, Tryd.func86.trans (congrArg some (by kernel_rfl))⟩
  f23 := ⟨Tryd.f87.name, by decide, Tryd.func87.trans (congrArg some (by kernel_rfl))⟩
  f24 := ⟨Tryd.f88.name, by decide, Tryd.func88.trans (congrArg some (by kernel_rfl))⟩
  f25 := ⟨Tryd.f89.name, by decide, Tryd.func89.trans (congrArg some (by kernel_rfl))⟩
  f26 := ⟨Tryd.f90.name, by decide, Tryd.func90.trans (congrArg some (by kernel_rfl))⟩
  f27 := ⟨Tryd.f91.name, by decide, Tryd.func91.trans (congrArg some (by kernel_rfl))⟩
  f28 := Tryd.func92.trans (congrArg some (by kernel_rfl))
  f29 := Tryd.func93.trans (congrArg some (by kernel_rfl))
  f46 := ⟨Tryd.f95.name, by decide, Tryd.func95.trans (congrArg some (by kernel_rfl))⟩
  f47 := Tryd.func96.trans (congrArg some (by kernel_rfl))
  f48 := Tryd.func97.trans (congrArg some (by kernel_rfl))
  f49 := ⟨Tryd.f98.name, by decide, Tryd.func98.trans (congrArg some (by kernel_rfl))⟩
  f50 := ⟨Tryd.f99.name, by decide, Tryd.func99.trans (congrArg some (by kernel_rfl))⟩
  f57 := ⟨Tryd.f100.name, by decide, Tryd.func100.trans (congrArg some (by kernel_rfl))⟩
  t0 := Tryd.underlying0
  a0 := Tryd.isAgg0
  z0 := Tryd.sizeOf0
  v0 := Tryd.zeroValue0
  t3 := Tryd.underlying3
  a3 := Tryd.isAgg3
  z3 := Tryd.sizeOf3
  v3 := Tryd.zeroValue3
  t4 := Tryd.underlying4
  a4 := Tryd.isAgg4
  z4 := Tryd.sizeOf4
  v4 := Tryd.zeroValue4
  t5 := Tryd.underlying5
  a5 := Tryd.isAgg5
  z5 := Tryd.sizeOf5
  v5 := Tryd.zeroValue5
  t9 := Tryd.underlying9
  a9 := Tryd.isAgg9
  z9 := Tryd.sizeOf9
  v9 := Tryd.zeroValue9
  t22 := Tryd.underlying100
  a22 := Tryd.isAgg100
  z22 := Tryd.sizeOf100
  v22 := Tryd.zeroValue100
  t25 := Tryd.underlying133
  a25 := Tryd.isAgg133
  z25 := Tryd.sizeOf133
  v25 := Tryd.zeroValue133
  t39 := Tryd.underlying109
  a39 := Tryd.isAgg109
  z39 := Tryd.sizeOf109
  v39 := Tryd.zeroValue109
  t45 := Tryd.underlying171
  a45 := Tryd.isAgg171
  z45 := Tryd.sizeOf171
  v45 := Tryd.zeroValue171
  t46 := Tryd.underlying172
  a46 := Tryd.isAgg172
  z46 := Tryd.sizeOf172
  v46 := Tryd.zeroValue172
  t50 := Tryd.underlying176
  a50 := Tryd.isAgg176
  z50 := Tryd.sizeOf176
  v50 := Tryd.zeroValue176
  t53 := Tryd.underlying26
  a53 := Tryd.isAgg26
  z53 := Tryd.sizeOf26
  v53 := Tryd.zeroValue26
  t55 := Tryd.underlying22
  a55 := Tryd.isAgg22
  z55 := Tryd.sizeOf22
  v55 := Tryd.zeroValue22
  t66 := Tryd.underlying181
  a66 := Tryd.isAgg181
  z66 := Tryd.sizeOf181
  v66 := Tryd.zeroValue181
  t70 := Tryd.underlying185
  a70 := Tryd.isAgg185
  z70 := Tryd.sizeOf185
  v70 := Tryd.zeroValue185
  t76 := Tryd.underlying187
  a76 := Tryd.isAgg187
  z76 := Tryd.sizeOf187
  v76 := Tryd.zeroValue187
  t77 := Tryd.underlying78
  a77 := Tryd.isAgg78
  z77 := Tryd.sizeOf78
  v77 := Tryd.zeroValue78 }
end Go.Proofs
namespace Go.Proofs.YtieekbdododkkaaDoor
set_option linter.unusedSimpArgs false
set_option linter.unusedVariables false
set_option maxRecDepth 100000
set_option maxHeartbeats 16000000
section
open Go.RowKit Go.Proofs.YtieekbdododkkaaDoorW.PrintWords Go.Proofs.YtieekbdododkkaaDoorW.PrintLast Go.Proofs.YtieekbdododkkaaDoorW.PrintMore
open H
open Go.Shelf Go.Lib Go.Sort
theorem sort_any (w : World) (g cap : Nat) (xs : List S47) (h : Row3 w g cap xs.toArray) (hsz : xs.length < 4611686018427387904) :
    Calls Tryd.prog 65 #[.slice (some ⟨g, 0, none⟩) xs.length cap, .func (.func 66) #[] #[]] w fun e w' => e = .returned (.tuple #[]) ∧ Row3 w' g cap (sortCells xs).toArray ∧ w.grownBy w' (some g) := by
  have eg : ∀ args w, (callFunc 66 args).run Tryd.prog w = .ok (.enter 66 args) w := enters_of Tryd.func66 (by kernel_rfl) rfl
  have hcmp : CmpLays Tryd.prog 66 #[] encCell 3 cmpCell g 0 xs.toArray.size w := fun _ _ _ _ x y => compare_any x y _
  have hcon := AnyQ.slices_SortFunc_total Tryd.sortCell 3 Tryd.isAgg47 Tryd.sizeOf47 encCell (fun _ => rfl) (fun x v hv => by simp [encCell] at hv; rcases hv with rfl | rfl | rfl <;> rfl) cmpCell swo_cell 66 #[] g 0 cap xs.toArray w eg hcmp (holds_row h) h.lt (by simpa using hsz) tot_cell
  refine Calls.mono hcon ?_
  rintro e w' ⟨rfl, n, os, rfl⟩
  exact ⟨rfl, row_sorted h (by simp [List.length_mergeSort])⟩
theorem grownBy_refl (w : World) (g : Nat) : w.grownBy w (some g) := ⟨rfl, rfl, rfl, Nat.le_refl _, fun _ _ _ => rfl⟩
theorem grownBy_set {w W : World} {g : Nat} (h : w.grownBy W (some g)) (o : Nat) (v : Value) : w.grownBy (W.setCell ⟨g, o, none⟩ v) (some g) :=
  ⟨h.os, h.tape, h.output, by simpa using h.size, fun k hk hne => (Below.heap_setCell W ⟨g, o, none⟩ v k (fun e => hne (by rw [e]))).trans (h.block k hk hne)⟩
theorem grownBy_drewN {w W : World} {g : Nat} (h : w.grownBy W (some g)) (n : Nat) : w.grownBy (W.drewN n) (some g) := ⟨h.os, h.tape, h.output, h.size, h.block⟩
theorem grownBy_sets {w : World} {g : Nat} : ∀ (vs : List Value) (o : Nat) (W : World), w.grownBy W (some g) → w.grownBy (W.setCells g o vs) (some g)
  | [], _, _, h => h
  | v :: r, o, _, h => grownBy_sets r (o + 1) _ (grownBy_set h o v)
section
variable {w : World} {g cap : Nat} {d : Array S47}
theorem Row3.set_out (h : Row3 w g cap d) (o : Nat) (ho : d.size * 3 ≤ o) (v : Value) : Row3 (w.setCell ⟨g, o, none⟩ v) g cap d := by
  obtain ⟨cur, hb, hs, hc⟩ := h.blk
  refine ⟨h.le, h.max, _, blk_set hb _ _, by simp [hs], fun j hj => ?_⟩
  obtain ⟨c0, c1, c2⟩ := hc j hj
  refine ⟨?_, ?_, ?_⟩ <;> (rw [Array.getElem?_setIfInBounds, if_neg (by omega)]; assumption)
theorem Row3.sets_out : ∀ (vs : List Value) (o : Nat) (w : World), Row3 w g cap d → d.size * 3 ≤ o → Row3 (w.setCells g o vs) g cap d
  | [], _, _, h, _ => h
  | v :: r, o, _, h, ho => Row3.sets_out r (o + 1) _ (h.set_out o ho v) (by omega)
theorem Row3.pre (h : Row3 w g cap d) (d' : Array S47) (hs : d'.size ≤ d.size) (hd : ∀ j, j < d'.size → d'[j]! = d[j]!) : Row3 w g cap d' := by
  obtain ⟨cur, hb, hcs, hc⟩ := h.blk
  exact ⟨Nat.le_trans hs h.le, h.max, cur, hb, hcs, fun j hj => by rw [hd j hj]; exact hc j (by omega)⟩
theorem Row3.drew (h : Row3 w g cap d) : Row3 w.drew g cap d := ⟨h.le, h.max, h.blk⟩
theorem Row3.drewN (h : Row3 w g cap d) (n : Nat) : Row3 (w.drewN n) g cap d := ⟨h.le, h.max, h.blk⟩
end
theorem clear_cells (w : World) (g cap : Nat) (d : Array S47) (h : Row3 w g cap d) (k : Nat) (hk : k < d.size) (ty : TypeId) (c : Nat) :
    (Builtin.clear_ #[100] ty #[.slice (some ⟨g, k * 3, none⟩) (d.size - k) c]).run Tryd.prog w = .ok (.tuple #[]) (w.setCells g (k * 3) (List.replicate ((d.size - k) * 3) (.int .i64 0))) := by
  have hle := h.le
  have hz : (Builtin.zeroCells #[Value.int .i64 0, .int .i64 0, .int .i64 0] (d.size - k)).toList = List.replicate ((d.size - k) * 3) (.int .i64 0) := by
    simp only [Builtin.zeroCells, Array.toList_map, Array.toList_range, List.size_toArray]
    apply List.ext_getElem
    · simp
    · intro i h1 h2
      have : i % 3 = 0 ∨ i % 3 = 1 ∨ i % 3 = 2 := by omega
      rcases this with e | e | e <;> simp [e]
  have hcell : ∀ j, j < d.size * 3 → (w.cell? ⟨g, j, none⟩).isSome = true := fun j hj => by
    obtain ⟨c0, c1, c2⟩ := h.cell (j / 3) (by omega)
    have : j = j / 3 * 3 ∨ j = j / 3 * 3 + 1 ∨ j = j / 3 * 3 + 2 := by omega
    rcases this with e | e | e <;> (rw [e]; simp [c0, c1, c2])
  have hst := run_storeCells_cells (P := Tryd.prog) g (k * 3) (List.replicate ((d.size - k) * 3) (.int .i64 0)) 0 w (fun j hj => hcell _ (by simp at hj; omega)) (fun j hj => h.frozen _) (by intro v hv; rw [List.eq_of_mem_replicate hv]; rfl)
  simp only [Nat.add_zero] at hst
  obtain ⟨m, hm⟩ : ∃ m, d.size - k = m + 1 := ⟨d.size - k - 1, by omega⟩
  rw [hm] at hz hst ⊢
  have hv : ∀ w, (zeroValue 47).run Tryd.prog w = .ok (.agg #[.int .i64 0, .int .i64 0, .int .i64 0]) w := Tryd.zeroValue47
  simp [Builtin.clear_, run_underlying Tryd.underlying100, hv, Value.cells, hz, hst]
theorem eqPt (d : Nat) (w : World) (x0 y0 : Int) (x1 y1 : Int) :
    (Op.equalIn (d + 2) 45 (.agg #[.int .i64 x0, .int .i64 x1]) (.agg #[.int .i64 y0, .int .i64 y1])).run Tryd.prog w = .ok (x0 == y0 && (x1 == y1)) w := by
  refine eqA_of Tryd.underlying45 (by kernel_rfl) ?_
  refine eqf_cons (by rfl) (by go_simp; rfl) (by go_simp; rfl) (by go_simp) ?_
  exact eqf_last (by rfl) (by go_simp; rfl) (by go_simp; rfl) (by go_simp)
theorem eqCell (d : Nat) (w : World) (x0 y0 : Int) (x1 y1 : Int) (x2 y2 : Int) :
    (Op.equalIn (d + 3) 47 (.agg #[.int .i64 x0, .int .i64 x1, .int .i64 x2]) (.agg #[.int .i64 y0, .int .i64 y1, .int .i64 y2])).run Tryd.prog w = .ok ((x0 == y0 && (x1 == y1)) && (x2 == y2)) w := by
  refine eqA_of Tryd.underlying47 (by kernel_rfl) ?_
  refine eqf_cons (by rfl) (by go_simp) (by go_simp) (eqPt (d + 0) w _ _ _ _) ?_
  exact eqf_last (by rfl) (by go_simp; rfl) (by go_simp; rfl) (by go_simp)
/-- two cells' sameness, at cells that are whole -/
theorem eqCells (d : Nat) (w : World) (x y : S47) :
    (Op.equalIn (d + 3) 47 (.agg #[.int .i64 x.f0.f0, .int .i64 x.f0.f1, .int .i64 x.f1]) (.agg #[.int .i64 y.f0.f0, .int .i64 y.f0.f1, .int .i64 y.f1])).run Tryd.prog w = .ok (decide (x = y)) w := by
  rw [eqCell]
  congr 1
  obtain ⟨⟨a, b⟩, h⟩ := x
  obtain ⟨⟨c, d⟩, k⟩ := y
  rw [Bool.eq_iff_iff]
  simp [S47.mk.injEq, S45.mk.injEq]
attribute [local go_sem high] eqCells
theorem comp_all {d : Array S47} (h : ∀ j, j < d.size → keeps d j = true) : compactUpTo d d.size = d.toList := by
  rw [compactUpTo_all d _ h, range_map_get]
theorem compact_any (w : World) (g cap : Nat) (d : Array S47) (h : Row3 w g cap d) (hsz : d.size < 4611686018427387904) :
    Calls Tryd.prog 67 #[.slice (some ⟨g, 0, none⟩) d.size cap] w fun e w' => e = .returned (.slice (some ⟨g, 0, none⟩) (compactUpTo d d.size).length cap) ∧ Row3 w' g cap (compactUpTo d d.size).toArray ∧ w.grownBy w' (some g) := by
  have hle := h.le
  have hmx : cap ≤ 9223372036854775807 := h.max
  have HR := Aside0.mk h
  clear h
  by_cases h2 : d.size < 2
  · go_enter Tryd.func67, Tryd.ntmps67
    go_wp2
    go_ret
    have e := comp_all (d := d) (fun j hj => keeps_lt_one d j (by omega))
    rw [e]
    exact ⟨by simp, HR.out, grownBy_refl _ _⟩
  · go_enter Tryd.func67, Tryd.ntmps67
    go_wp2
    go_loopw [3] (fun s3 wr => ∃ k q : Nat, 1 ≤ k ∧ k ≤ d.size ∧ s3 = .int .i64 k ∧ wr = w.drewN q ∧ ∀ j, j < k → keeps d j = true) (fun s3 _ => d.size - (intOf s3).toNat)
    case atStart => exact ⟨1, 0, Nat.le_refl _, by omega, rfl, rfl, keeps_lt_one d⟩
    case round =>
      obtain ⟨k, q, hk1, hk, rfl, rfl, hall⟩ := hrel
      by_cases hlt : k < d.size
      · have A := Aside0.mk hall
        clear hall
        obtain ⟨a0, a1, a2⟩ := HR.out.cell k hlt
        obtain ⟨km, hkm⟩ : ∃ km, km = k - 1 := ⟨_, rfl⟩
        have hkm' : km < d.size := by omega
        obtain ⟨b0, b1, b2⟩ := HR.out.cell km hkm'
        generalize hx : d[k]! = x at a0 a1 a2
        generalize hy : d[km]! = y at b0 b1 b2
        have B := Aside0.mk (And.intro hx hy)
        clear hx hy
        have hw : IntKind.i64.wrap ((k : Int) - 1) = (km : Int) := by rw [IntKind.wrap_i64]; omega
        have KM := Aside0.mk hkm
        clear hkm
        go_wp2_with fail
        go_quiet (fail)
        by_cases hdup : x = y
        · have DUP := Aside0.mk hdup
          go_wp2_with fail
          clear a0 a1 a2 b0 b1 b2 hw
          go_loopw [3, 5] (fun s3 s5 wr => ∃ (kk k2 : Nat) (dk : Array S47), s3 = .int .i64 kk ∧ s5 = .int .i64 k2 ∧ 1 ≤ k2 ∧ k + k2 ≤ d.size ∧ CompInv d (k + k2) kk dk ∧ Row3 wr g cap dk ∧ w.grownBy wr (some g)) (fun _ s5 _ => d.size - (intOf s5).toNat)
          case atStart => exact ⟨k, 1, d, rfl, rfl, Nat.le_refl _, by omega, CompInv.start A.out (keeps_neg (by omega) (by rw [B.out.1, ← KM.out, B.out.2]; exact DUP.out)), HR.out.drewN _, grownBy_drewN (grownBy_refl _ _) _⟩
          case round =>
            obtain ⟨kk, k2, dk, rfl, rfl, h1, hle2, hI, hR, hG⟩ := hrel
            have hkk := hI.lt
            have hds := hI.size
            have I2 := Aside0.mk hI
            have R2 := Aside0.mk hR
            have G2 := Aside0.mk hG
            by_cases hlt2 : k + k2 < d.size
            · obtain ⟨km2, hkm2⟩ : ∃ km, km = k2 - 1 := ⟨_, rfl⟩
              obtain ⟨a0, a1, a2⟩ := hR.cell (k + k2) (by omega)
              obtain ⟨b0, b1, b2⟩ := hR.cell (k + km2) (by omega)
              have f0 := hR.frozen
              have hkb : kk < d.size := by omega
              obtain ⟨c0, c1, c2⟩ := hR.cell kk (by omega)
              have hkm2' : km2 < d.size - k := by omega
              have hk2' : k2 < d.size - k := by omega
              have hw : IntKind.i64.wrap ((k2 : Int) - 1) = (km2 : Int) := by rw [IntKind.wrap_i64]; omega
              rw [hI.high (k + k2) (by omega), show (k + k2) * 3 = k * 3 + k2 * 3 by omega] at a0 a1 a2
              rw [hI.high (k + km2) (by omega), show (k + km2) * 3 = k * 3 + km2 * 3 by omega] at b0 b1 b2
              clear hI hR hG
              generalize hu : d[k + k2]! = u at a0 a1 a2
              generalize hv : d[k + km2]! = v at b0 b1 b2
              generalize dk[kk]! = old at c0 c1 c2
              have C := Aside0.mk (And.intro hu hv)
              have KM2 := Aside0.mk hkm2
              clear hu hv hkm2 hdup
              go_wp2_with fail
              go_quiet (fail)
              by_cases huv : u = v
              · rw [show decide (u = v) = true from by simp [huv]]
                go_wp2_with fail
                go_roundw
                case rel => exact ⟨kk, k2 + 1, dk, rfl, by go_num, by omega, by omega, I2.out.skip (keeps_neg (by omega) (by rw [C.out.1, show k + k2 - 1 = k + km2 by have := KM2.out; omega, C.out.2]; exact huv)), R2.out.drewN _, grownBy_drewN G2.out _⟩
                case measure => simp [intOf]; omega
              · rw [show decide (u = v) = false from by simp [huv]]
                go_wp2_with fail
                go_roundw
                case rel => exact ⟨kk + 1, k2 + 1, dk.setIfInBounds kk u, by go_num, by go_num, by omega, by omega, by have := I2.out.keep hlt2 (keeps_pos (by rw [C.out.1, show k + k2 - 1 = k + km2 by have := KM2.out; omega, C.out.2]; exact huv)); rwa [C.out.1] at this, (R2.out.drewN _).set kk (by omega) u, grownBy_set (grownBy_set (grownBy_set (grownBy_drewN G2.out _) _ _) _ _) _ _⟩
                case measure => simp [intOf]; omega
            · have hend : k + k2 = d.size := by omega
              have hcl := fun ty c => clear_cells wr g cap dk R2.out kk (by omega) ty c
              rw [hds] at hcl
              clear hI hR hG hdup
              go_wp2
              go_ret
              have hI := I2.out
              rw [hend] at hI
              have hlen := hI.len
              refine ⟨by rw [hlen]; rfl, Row3.sets_out _ _ _ (R2.out.pre _ (by simp [hlen]; omega) (fun j hj => ?_)) (by simp [hlen]), grownBy_sets _ _ _ G2.out⟩
              have hj' : j < kk := by simpa [hlen] using hj
              have := hI.low j hj'
              rw [getElem!_def, List.getElem?_toArray, this]
        · go_wp2
          go_roundw
          case rel =>
            refine ⟨k + 1, _, by omega, by omega, by go_num, rfl, fun j hj => ?_⟩
            by_cases e : j = k
            · subst e
              exact keeps_pos (by rw [B.out.1, ← KM.out, B.out.2]; exact hdup)
            · exact A.out j (by omega)
          case measure => simp [intOf]; omega
      · have : k = d.size := by omega
        subst this
        go_wp2
        go_ret
        rw [comp_all hall]
        exact ⟨by simp, HR.out.drewN q, grownBy_drewN (grownBy_refl _ _) q⟩
end
section
open Go.RowKit Go.Proofs.YtieekbdododkkaaDoorW.PrintWords Go.Proofs.YtieekbdododkkaaDoorW.PrintLast Go.Proofs.YtieekbdododkkaaDoorW.PrintMore
open H
open Go.Shelf Go.Lib Go.Sort
def nearL (l a b h : Int) : List S47 := if l = 1 then hexL a b 6 else if l = 2 then edgeL a b h 3 else vertL a b h 3
theorem near_any (l a b h : Int) (w : World) (hG : Six w) (hg : goodP a b) (hh0 : 0 ≤ h) (hh1 : h ≤ 1) :
    Calls Tryd.prog 64 #[.int .i64 l, .agg #[.int .i64 a, .int .i64 b, .int .i64 h]] w fun e w' => ∃ v : Value, e = .returned v ∧ Kd.R k47 47 w' w.heap.size (fun _ => True) v (nearL l a b h) ∧ Below w.heap.size w w' := by
  obtain ⟨g1, g2, g3, g4⟩ := hg
  unfold nearL
  by_cases h1 : l = 1
  · subst h1
    exact near_hex a b h w hG (by omega) (by omega) (by omega) (by omega)
  · rw [if_neg h1]
    by_cases h2 : l = 2
    · subst h2
      exact near_edge a b h w (by omega) (by omega) (by omega) (by omega) hh0 hh1
    · rw [if_neg h2]
      exact near_vert l a b h w h1 h2 (by omega) (by omega) (by omega) (by omega)
theorem near_ne (l a b h : Int) : nearL l a b h ≠ [] := by
  unfold nearL
  split
  · simp [hexL, sixP]
  · split
    · simp [edgeL, edgeP]
    · unfold vertL cornP
      split <;> simp [aroundL]
theorem near_len (l a b h : Int) : (nearL l a b h).length ≤ 18 := by
  unfold nearL
  split
  · simp [hexL, sixP]
  · split
    · simp [edgeL, edgeP]
    · exact vertL_len a b h 3
theorem near_row (l a b h : Int) (w : World) (hG : Six w) (hg : goodP a b) (hh0 : 0 ≤ h) (hh1 : h ≤ 1) :
    Calls Tryd.prog 64 #[.int .i64 l, .agg #[.int .i64 a, .int .i64 b, .int .i64 h]] w fun e w' => ∃ g cap : Nat, e = .returned (.slice (some ⟨g, 0, none⟩) (nearL l a b h).length cap) ∧ (nearL l a b h).length ≤ cap ∧ w.heap.size ≤ g ∧ Row3 w' g cap (nearL l a b h).toArray ∧ Below w.heap.size w w' := by
  refine (near_any l a b h w hG hg hh0 hh1).mono ?_
  rintro e w' ⟨v, rfl, hR, hB⟩
  rcases row_of_R hR with ⟨_, h0⟩ | ⟨g, cap, rfl, hb, _, hrow⟩
  · exact absurd h0 (near_ne l a b h)
  · exact ⟨g, cap, rfl, by simpa using hrow.le, hb, hrow, hB⟩
/-- those beside a cell: all that are near but itself, rising, each once -/
def farL (l a b h : Int) : List S47 := (nearL l a b h).filter fun x => !decide (x = ⟨⟨a, b⟩, h⟩)
def besideL (l a b h : Int) : List S47 := compactUpTo (sortCells (farL l a b h)).toArray (sortCells (farL l a b h)).toArray.size
def allGood (xs : List S47) : Prop := ∀ x ∈ xs, goodP x.f0.f0 x.f0.f1
def besideV (w' : World) (base : Nat) (e : Ending) (xs : List S47) : Prop := (allGood xs ∧ ∃ v, e = .returned (.tuple #[v, .nilIface]) ∧ Kd.R k47 47 w' base (fun _ => True) v xs) ∨ (¬ allGood xs ∧ e = .returned (.tuple #[.slice none 0 0, errW (some 6)]))
attribute [local go_sem high] eqCells
theorem beside_ok (l a b h : Int) (w : World) (hG : Six w) (hc : checkR l a b h = none) (hg : goodP a b) (hh0 : 0 ≤ h) (hh1 : h ≤ 1) (hne : farL l a b h ≠ []) :
    Calls Tryd.prog 44 #[.int .i64 l, .agg #[.int .i64 a, .int .i64 b, .int .i64 h]] w fun e w' => besideV w' w.heap.size e (besideL l a b h) ∧ Below w.heap.size w w' := by
  have hck := fun W => check_any l a b h W
  simp only [hc, errW_none] at hck
  obtain ⟨c, hcdef⟩ : ∃ c : S47, c = ⟨⟨a, b⟩, h⟩ := ⟨_, rfl⟩
  have hca : a = c.f0.f0 := by rw [hcdef]
  have hcb : b = c.f0.f1 := by rw [hcdef]
  have hch : h = c.f1 := by rw [hcdef]
  have hnr := fun W hW => near_row l a b h W hW hg hh0 hh1
  obtain ⟨L, hL⟩ : ∃ L, L = nearL l a b h := ⟨_, rfl⟩
  have hLn : L ≠ [] := by rw [hL]; exact near_ne l a b h
  have hLl : L.length ≤ 18 := by rw [hL]; exact near_len l a b h
  have hF : farL l a b h = L.filter fun x => !decide (x = c) := by rw [hL, hcdef]; rfl
  unfold besideL
  rw [hF] at hne ⊢
  obtain ⟨F, hFd⟩ : ∃ F, F = L.filter fun x => !decide (x = c) := ⟨_, rfl⟩
  rw [← hFd] at hne ⊢
  obtain ⟨X, hXd⟩ : ∃ X, X = compactUpTo (sortCells F).toArray (sortCells F).toArray.size := ⟨_, rfl⟩
  rw [← hXd]
  have HFD := Aside0.mk hFd
  have HXD := Aside0.mk hXd
  clear hFd hXd
  rw [← hL] at hnr
  rw [hca, hcb, hch] at hck hnr ⊢
  clear hca hcb hch hc hg hh0 hh1 hF hL hcdef
  go_enter Tryd.func44, Tryd.ntmps44
  go_wp2_with fail
  obtain ⟨w1, hw1, hcc, hsz, hB1⟩ := one_new w #[.int .i64 c.f0.f0, .int .i64 c.f0.f1, .int .i64 c.f1] 47
  rw [← hw1]
  clear hw1
  have hG1 := hG.below hB1
  have HB1 := Aside0.mk hB1
  clear hB1
  have d0 : w1.cell? ⟨w.heap.size, 0, none⟩ = some (.int .i64 c.f0.f0) := hcc 0 _ rfl
  have d1 : w1.cell? ⟨w.heap.size, 1, none⟩ = some (.int .i64 c.f0.f1) := hcc 1 _ rfl
  have d2 : w1.cell? ⟨w.heap.size, 2, none⟩ = some (.int .i64 c.f1) := hcc 2 _ rfl
  clear hcc
  have G1 := Aside0.mk hG1
  clear hG1 hG
  go_wp2_with (first
    | (go_at_call 63; refine (hck _).mono ?_; rintro e w2 ⟨rfl, hb2⟩
       have G2 := Aside0.mk (G1.out.below hb2)
       have d0 := pw_cell_below hb2 d0
       have d1 := pw_cell_below hb2 d1
       have d2 := pw_cell_below hb2 d2
       have HB2 := Aside0.mk hb2
       clear hb2)
    | (go_at_call 64; refine (hnr _ G2.out).mono ?_; rintro e w3 ⟨g3, c3, rfl, hlc3, hg3, hrow3, hb3⟩
       have d0 := pw_cell_below hb3 d0
       have d1 := pw_cell_below hb3 d1
       have d2 := pw_cell_below hb3 d2
       have HB3 := Aside0.mk (HB2.out.trans (hb3.mono HB2.out.size))
       have HR3 := Aside0.mk hrow3
       clear hb3 hrow3))
  have hz3 := HB3.out.size
  have hg3' := HR3.out.lt
  have C0 := Aside0.mk (And.intro d0 (And.intro d1 d2))
  clear d0 d1 d2
  go_loopw [7, 22] (fun v i wr => ∃ k : Nat, k ≤ L.length ∧ i = .int .i64 k ∧ Kd.R k47 47 wr w3.heap.size (fun _ => True) v ((L.take k).filter fun x => !decide (x = c)) ∧ Below w3.heap.size w3 wr) (fun _ i _ => L.length - (intOf i).toNat)
  case atStart => exact ⟨0, by omega, rfl, by simp; exact Kd.R_nil _ _ _ _ _, Below.refl _ _⟩
  case round =>
    obtain ⟨k, hk, rfl, hO, hB⟩ := hrel
    have HO := Aside0.mk hO
    have HB := Aside0.mk hB
    have d0 := pw_cell_below hB C0.out.1
    have d1 := pw_cell_below hB C0.out.2.1
    have d2 := pw_cell_below hB C0.out.2.2
    have hzr := hB.size
    have hzz : w.heap.size < wr.heap.size := Nat.lt_of_lt_of_le (Nat.lt_of_lt_of_le hsz hz3) hzr
    have hg3z : g3 < wr.heap.size := Nat.lt_of_lt_of_le hg3' hzr
    by_cases hlt : k < L.length
    · obtain ⟨a0, a1, a2⟩ := (HR3.out.below hB).cell k (by simpa using hlt)
      generalize hx : L.toArray[k]! = x at a0 a1 a2
      clear hO hB
      have HX := Aside0.mk hx
      clear hx
      have hlf : ((L.take k).filter fun x => !decide (x = c)).length ≤ 18 := Nat.le_trans (List.length_filter_le _ _) (by simp; omega)
      have htk : L.take (k + 1) = L.take k ++ [x] := by
        rw [List.take_add_one, List.getElem?_eq_getElem hlt]
        have : L.toArray[k]! = L[k] := by simp [hlt]
        rw [← HX.out, this]
        rfl
      have HTK := Aside0.mk htk
      clear htk
      by_cases hxc : x = c
      · go_wp2_with fail
        go_roundw
        case rel => exact ⟨k + 1, by omega, by go_num, by rw [HTK.out, List.filter_append]; simpa [hxc] using Kd.R_alloc HO.out _, below_alloc2 HB.out (by omega) _⟩
        case measure => simp [intOf]; omega
      · go_wp2_with (at_builtin; refine app1 k47 w3.heap.size (.tmp 29) (.tmp 31) 100 47 (.agg #[.int .i64 0, .int .i64 0, .int .i64 0]) 24 _ ((L.take k).filter fun x => !decide (x = c)) x [.int .i64 x.f0.f0, .int .i64 x.f0.f1, .int .i64 x.f1] _ rfl rfl Tryd.underlying100 info47 rfl (by decide) (by decide) rfl (by simp; done) rfl (k47_mkM _ _ _ _) (Kd.R_alloc HO.out _) (below_alloc2 HB.out (by omega) _) (by simp; omega) (by omega) ?_; intro v1 w4 ho4 hb4; have HO4 := Aside0.mk ho4; have HB4 := Aside0.mk hb4; clear ho4 hb4)
        go_roundw
        case rel => exact ⟨k + 1, by omega, by go_num, by rw [HTK.out, List.filter_append]; simpa [hxc] using HO4.out, HB4.out⟩
        case measure => simp [intOf]; omega
    · obtain rfl : k = L.length := by omega
      have hO2 := hO
      rw [List.take_length, ← HFD.out] at hO2
      rcases row_of_R hO2 with ⟨_, h0⟩ | ⟨g5, c5, rfl, hb5, _, hrow5⟩
      · exact absurd h0 hne
      have hlen5 : F.length ≤ 18 := by rw [HFD.out]; exact Nat.le_trans (List.length_filter_le _ _) hLl
      clear hO hO2 HO hck hnr
      have R5 := Aside0.mk hrow5
      have hsl : (sortCells F).length = F.length := List.length_mergeSort _
      have hsort := fun W hW => sort_any W g5 c5 F hW (by omega)
      have hcomp : ∀ W, Row3 W g5 c5 (sortCells F).toArray → Calls Tryd.prog 67 #[.slice (some ⟨g5, 0, none⟩) F.length c5] W fun e w' => e = .returned (.slice (some ⟨g5, 0, none⟩) X.length c5) ∧ Row3 w' g5 c5 X.toArray ∧ W.grownBy w' (some g5) := fun W hW => by
        have := compact_any W g5 c5 _ hW (by simp [hsl]; omega)
        rw [← HXD.out] at this
        rwa [show (sortCells F).toArray.size = F.length by simp [hsl]] at this
      clear hrow5
      have hXl : X.length ≤ 18 := by
        rw [HXD.out]
        unfold compactUpTo
        rw [List.length_map]
        exact Nat.le_trans (List.length_filter_le _ _) (by simp [hsl]; omega)
      go_wp2_with (first
        | (go_at_call 65; refine (hsort _ R5.out).mono ?_; rintro e w5 ⟨rfl, hr5, hgr5⟩; have R6 := Aside0.mk hr5; have GR5 := Aside0.mk hgr5; clear hr5 hgr5)
        | (go_at_call 67; refine (hcomp _ R6.out).mono ?_; rintro e w6 ⟨rfl, hr6, hgr6⟩; have R7 := Aside0.mk hr6; have GR6 := Aside0.mk hgr6; clear hr6 hgr6))
      have hB36 : Below w3.heap.size w3 w6 := pw_below_grown (pw_below_grown HB.out _ (by omega) GR5.out (fun k hk => by cases hk; exact hb5)) _ (Nat.le_trans (by omega) GR5.out.size) GR6.out (fun k hk => by cases hk; exact hb5)
      have HB36 := Aside0.mk hB36
      have hz36 := hB36.size
      clear hB36 hsort hcomp
      have hzw : w.heap.size ≤ w3.heap.size := by omega
      have hzb : w.heap.size ≤ g5 := by omega
      go_loopw [40] (fun i wq => ∃ k : Nat, k ≤ X.length ∧ i = .int .i64 k ∧ (∀ j, j < k → goodP X.toArray[j]!.f0.f0 X.toArray[j]!.f0.f1) ∧ Below w6.heap.size w6 wq) (fun i _ => X.length - (intOf i).toNat)
      case atStart => exact ⟨0, by omega, rfl, fun j hj => by omega, Below.refl _ _⟩
      case round =>
        obtain ⟨k, hk, rfl, hgood, hB⟩ := hrel
        have GD := Aside0.mk hgood
        have HBQ := Aside0.mk hB
        have hzq := hB.size
        have hg5q : g5 < wr.heap.size := (R7.out.below hB).lt
        by_cases hlt : k < X.length
        · obtain ⟨a0, a1, a2⟩ := (R7.out.below hB).cell k (by simpa using hlt)
          generalize hx : X.toArray[k]! = x at a0 a1 a2
          have HX := Aside0.mk hx
          have hga := fun W => good_any x.f0.f0 x.f0.f1 W
          clear hx hgood hB
          by_cases hgx : goodP x.f0.f0 x.f0.f1
          · rw [decide_eq_true hgx] at hga
            go_wp2_with (go_at_call 68; refine (hga _).mono ?_; rintro e w7 ⟨rfl, hb7⟩; have HB7 := Aside0.mk hb7; clear hb7)
            go_roundw
            case rel =>
              refine ⟨k + 1, by omega, by go_num, fun j hj => ?_, (below_alloc2 HBQ.out (by omega) _).trans (HB7.out.mono (by simp; omega))⟩
              rcases Nat.lt_or_ge j k with hjk | hjk
              · exact GD.out j hjk
              · obtain rfl : j = k := by omega
                rw [HX.out]
                exact hgx
            case measure => simp [intOf]; omega
          · rw [decide_eq_false hgx] at hga
            go_wp2_with (go_at_call 68; refine (hga _).mono ?_; rintro e w7 ⟨rfl, hb7⟩; have HB7 := Aside0.mk hb7; clear hb7)
            refine bodyPost_ret (v := .tuple #[.slice none 0 0, errW (some 6)]) (by simp [results, Tryd.results44, go_sem, errW_some]) rfl ⟨.inr ⟨fun hall => hgx ?_, rfl⟩, ?_⟩
            · have : x ∈ X := by
                have hxe : X.toArray[k]! = X[k] := by simp [hlt]
                rw [← HX.out, hxe]
                exact List.getElem_mem _
              exact hall x this
            · exact HB1.out.trans ((HB3.out.trans ((HB36.out.trans (((below_alloc2 HBQ.out (by omega) _).trans (HB7.out.mono (by simp; omega))).mono (by omega))).mono (by omega))).mono (by omega))
        · obtain rfl : k = X.length := by omega
          clear hB hgood
          go_wp2
          refine bodyPost_ret (v := .tuple #[.slice (some ⟨g5, 0, none⟩) X.length c5, .nilIface]) (by simp [results, Tryd.results44, go_sem]) rfl ⟨.inl ⟨fun x hx => ?_, _, rfl, R_of_row (R7.out.below HBQ.out) hzb trivial⟩, ?_⟩
          · obtain ⟨j, hj, rfl⟩ := List.getElem_of_mem hx
            have := GD.out j hj
            have hxe : X.toArray[j]! = X[j] := by simp [hj]
            rwa [hxe] at this
          · exact HB1.out.trans ((HB3.out.trans ((HB36.out.trans (HBQ.out.mono (by omega))).mono (by omega))).mono (by omega))
end
open Go.RowKit Go.Proofs.YtieekbdododkkaaDoorW.PrintWords Go.Proofs.YtieekbdododkkaaDoorW.PrintLast Go.Proofs.YtieekbdododkkaaDoorW.PrintMore
open H
open Go.Shelf Go.Lib Go.Sort
theorem sh_inj (a b : Int) {x y : CL} (h : sh a b x = sh a b y) : x = y := by
  obtain ⟨⟨p, q⟩, r⟩ := x
  obtain ⟨⟨p', q'⟩, r'⟩ := y
  simp only [sh, S47.mk.injEq, S45.mk.injEq] at h ⊢
  omega
theorem sh_lt (a b : Int) (x y : CL) : ltOf cmpCell (sh a b x) (sh a b y) = ltOf cmpCell x y := by
  rw [lt_cell, lt_cell]
  simp only [sh]
  congr 1
  rw [eq_iff_iff]
  omega
theorem near_sh (l a b h : Int) (h0 : h = 0 ∨ h = 1) : nearL l a b h = (nearL l 0 0 h).map (sh a b) := by
  unfold nearL
  split
  · simp [hexL, sixP, sh]
  · split
    · rcases h0 with rfl | rfl <;> simp [edgeL, edgeP, sh]
    · rcases h0 with rfl | rfl
      · simp [vertL, cornP, aroundL, sh]; omega
      · simp [vertL, cornP, aroundL, sh]; omega
theorem far_sh (l a b h : Int) (h0 : h = 0 ∨ h = 1) : farL l a b h = (farL l 0 0 h).map (sh a b) := by
  unfold farL
  rw [near_sh l a b h h0, List.filter_map]
  congr 2
  funext x
  obtain ⟨⟨p, q⟩, r⟩ := x
  rw [Bool.eq_iff_iff]
  simp [sh, S47.mk.injEq, S45.mk.injEq]
  omega
theorem sort_sh (a b : Int) (xs : List CL) : sortCells (xs.map (sh a b)) = (sortCells xs).map (sh a b) := by
  unfold sortCells
  rw [List.map_mergeSort]
  intro x _ y _
  rw [sh_lt]
theorem keeps_map (f : CL → CL) (hf : ∀ x y, f x = f y → x = y) (xs : List CL) (j : Nat) (hj : j < xs.length) : keeps (xs.map f).toArray j = keeps xs.toArray j := by
  unfold keeps
  have e : ∀ i, i < xs.length → (xs.map f).toArray[i]! = f xs.toArray[i]! := fun i hi => by simp [hi]
  rw [e j hj, e (j - 1) (by omega)]
  rw [Bool.eq_iff_iff]
  simp only [decide_eq_true_eq]
  constructor
  · rintro (h | h)
    · exact .inl h
    · exact .inr fun h' => h (by rw [h'])
  · rintro (h | h)
    · exact .inl h
    · exact .inr fun h' => h (hf _ _ h')
theorem compact_map (f : CL → CL) (hf : ∀ x y, f x = f y → x = y) (xs : List CL) : compactUpTo (xs.map f).toArray (xs.map f).toArray.size = (compactUpTo xs.toArray xs.toArray.size).map f := by
  unfold compactUpTo
  simp only [List.size_toArray, List.length_map, List.map_map]
  rw [List.filter_congr (q := keeps xs.toArray) (fun j hj => keeps_map f hf xs j (by simpa using hj))]
  apply List.map_congr_left
  intro j hj
  have : j < xs.length := by simpa using (List.mem_filter.1 hj).1
  simp [this]
def offs (l h : Int) : List CL :=
  if l = 1 then [mk 0 (-1) 0, mk 1 (-1) 0, mk (-1) 0 0, mk 1 0 0, mk (-1) 1 0, mk 0 1 0]
  else if l = 2 then (if h = 0 then [mk 0 (-1) 1, mk (-1) 0 1, mk 0 0 1] else [mk 0 0 0, mk 1 0 0, mk 0 1 0])
  else if h = 0 then [mk (-1) (-1) 1, mk 0 (-1) 0, mk 0 (-1) 1, mk 1 (-1) 0, mk 1 (-1) 1, mk (-1) 0 0, mk (-1) 0 1, mk 0 0 1, mk 1 0 0, mk (-1) 1 0, mk (-1) 1 1, mk 0 1 0]
  else [mk 0 (-1) 1, mk 1 (-1) 0, mk 1 (-1) 1, mk (-1) 0 1, mk 0 0 0, mk 1 0 0, mk 1 0 1, mk (-1) 1 0, mk (-1) 1 1, mk 0 1 0, mk 0 1 1, mk 1 1 0]
theorem sort_is (xs ys : List CL) (hp : xs.Perm ys) (hs : ys.Pairwise fun x y => (!(ltOf cmpCell) y x) = true) : sortCells xs = ys := by
  have hle : ∀ x y : CL, (!(ltOf cmpCell) y x) = true → (!(ltOf cmpCell) x y) = true → x = y := fun x y h1 h2 => tot_cell x y (by simpa using h2) (by simpa using h1)
  refine List.Perm.eq_of_pairwise (le := fun x y => (!(ltOf cmpCell) y x) = true) (fun a b _ _ => hle a b) (List.pairwise_mergeSort ?_ ?_ xs) hs ((List.mergeSort_perm xs _).trans hp)
  · intro x y z h1 h2
    simp only [lt_cell, Bool.not_eq_true', decide_eq_false_iff_not] at *
    omega
  · intro x y
    simp only [lt_cell, Bool.or_eq_true, Bool.not_eq_true', decide_eq_false_iff_not]
    omega
instance (xs : List CL) : Decidable (xs.Pairwise fun x y => (!(ltOf cmpCell) y x) = true) := inferInstance
theorem base_is (l h : Int) (ys : List CL) (hp : (farL l 0 0 h).Perm ys) (hs : ys.Pairwise fun x y => (!(ltOf cmpCell) y x) = true) : besideL l 0 0 h = compactUpTo ys.toArray ys.toArray.size := by
  unfold besideL
  rw [sort_is _ ys hp hs]
/-- the sorted lists, with those that come twice -/
def dups (h : Int) : List CL := if h = 0 then [mk (-1) (-1) 1, mk 0 (-1) 0, mk 0 (-1) 1, mk 0 (-1) 1, mk 1 (-1) 0, mk 1 (-1) 1, mk (-1) 0 0, mk (-1) 0 1, mk (-1) 0 1, mk 0 0 1, mk 0 0 1, mk 1 0 0, mk (-1) 1 0, mk (-1) 1 1, mk 0 1 0]
  else [mk 0 (-1) 1, mk 1 (-1) 0, mk 1 (-1) 1, mk (-1) 0 1, mk 0 0 0, mk 0 0 0, mk 1 0 0, mk 1 0 0, mk 1 0 1, mk (-1) 1 0, mk (-1) 1 1, mk 0 1 0, mk 0 1 0, mk 0 1 1, mk 1 1 0]
theorem beside_base (l h : Int) (hl : 1 ≤ l) (hl' : l ≤ 3) (h0 : h = 0 ∨ h = 1) (h1 : l = 1 → h = 0) : besideL l 0 0 h = offs l h := by
  have : l = 1 ∨ l = 2 ∨ l = 3 := by omega
  rcases this with rfl | rfl | rfl
  · obtain rfl := h1 rfl
    rw [base_is 1 0 (offs 1 0) (by decide) (by decide)]
    decide
  · rcases h0 with rfl | rfl
    · rw [base_is 2 0 (offs 2 0) (by decide) (by decide)]; decide
    · rw [base_is 2 1 (offs 2 1) (by decide) (by decide)]; decide
  · rcases h0 with rfl | rfl
    · rw [base_is 3 0 (dups 0) (by decide) (by decide)]; decide
    · rw [base_is 3 1 (dups 1) (by decide) (by decide)]; decide
theorem beside_eq (l a b h : Int) (hl : 1 ≤ l) (hl' : l ≤ 3) (h0 : h = 0 ∨ h = 1) (h1 : l = 1 → h = 0) : besideL l a b h = (offs l h).map (sh a b) := by
  rw [← beside_base l h hl hl' h0 h1]
  unfold besideL
  rw [far_sh l a b h h0, sort_sh, compact_map _ (fun x y => sh_inj a b)]
theorem far_ne (l a b h : Int) (hl : 1 ≤ l) (hl' : l ≤ 3) (h0 : h = 0 ∨ h = 1) (h1 : l = 1 → h = 0) : farL l a b h ≠ [] := by
  intro he
  have h2 := beside_eq l a b h hl hl' h0 h1
  unfold besideL at h2
  rw [he] at h2
  have h3 : (offs l h).map (sh a b) = [] := by rw [← h2]; simp [sortCells, compactUpTo]
  unfold offs at h3
  split at h3
  · simp at h3
  · split at h3 <;> split at h3 <;> simp at h3
/-- BESIDE, at a cell that may be. -/
theorem beside_any (l a b h : Int) (w : World) (hG : Six w) (hl : 1 ≤ l) (hl' : l ≤ 3) (h0 : h = 0 ∨ h = 1) (h1 : l = 1 → h = 0) (hg : goodP a b) :
    Calls Tryd.prog 44 #[.int .i64 l, .agg #[.int .i64 a, .int .i64 b, .int .i64 h]] w fun e w' => besideV w' w.heap.size e ((offs l h).map (sh a b)) ∧ Below w.heap.size w w' := by
  have := beside_ok l a b h w hG ?_ hg (by omega) (by omega) (far_ne l a b h hl hl' h0 h1)
  · rwa [beside_eq l a b h hl hl' h0 h1] at this
  · unfold checkR
    rw [if_pos ⟨hl, hl'⟩, if_neg ?_, if_pos hg]
    rcases h0 with rfl | rfl
    · split <;> omega
    · by_cases e : l = 1
      · have := h1 e; omega
      · rw [if_neg e]; omega
theorem beside_refused (l a b h c : Int) (w : World) (hc : checkR l a b h = some c) :
    Calls Tryd.prog 44 #[.int .i64 l, .agg #[.int .i64 a, .int .i64 b, .int .i64 h]] w fun e w' => e = .returned (.tuple #[.slice none 0 0, errW (some c)]) ∧ Below w.heap.size w w' := by
  have hck := fun W => check_any l a b h W
  simp only [hc, errW_some] at hck ⊢
  go_enter Tryd.func44, Tryd.ntmps44
  go_wp2_with fail
  obtain ⟨w1, hw1, hcc, hsz, hB1⟩ := one_new w #[.int .i64 a, .int .i64 b, .int .i64 h] 47
  rw [← hw1]
  clear hw1
  have d0 : w1.cell? ⟨w.heap.size, 0, none⟩ = some (.int .i64 a) := hcc 0 _ rfl
  have d1 : w1.cell? ⟨w.heap.size, 1, none⟩ = some (.int .i64 b) := hcc 1 _ rfl
  have d2 : w1.cell? ⟨w.heap.size, 2, none⟩ = some (.int .i64 h) := hcc 2 _ rfl
  have HB1 := Aside0.mk hB1
  clear hcc hB1
  go_wp2_with (go_at_call 63; refine (hck _).mono ?_; rintro e w2 ⟨rfl, hb2⟩; have HB2 := Aside0.mk (HB1.out.trans (hb2.mono HB1.out.size)); clear hb2)
  go_ret2
  exact ⟨rfl, HB2.out⟩
/-- those beside a cell, or the code -/
def XBeside.f (l a b h : Int) : Option (List S47 × Option Int) :=
  some (match checkR l a b h with
    | some c => ([], some c)
    | none => if ((offs l h).map (sh a b)).all (fun x => decide (goodP x.f0.f0 x.f0.f1)) = true then ((offs l h).map (sh a b), none) else ([], some 6))
theorem XBeside.calls (a0 : Int) (a1_0 : Int) (a1_1 : Int) (a1_2 : Int) (r1 : List S47) (r2 : Option Int) (w : World) (hGSix : Six w) (h : XBeside.f a0 a1_0 a1_1 a1_2 = some (r1, r2)) :
    Calls Tryd.prog 44 #[.int .i64 a0, .agg #[.int .i64 a1_0, .int .i64 a1_1, .int .i64 a1_2]] w fun e w' => ∃ v0_ : Value, e = .returned (.tuple #[v0_, errW r2]) ∧ Kd.R k47 47 w' w.heap.size (fun _ => True) v0_ r1 ∧ Below w.heap.size w w' := by
  have h' := Option.some.inj h
  clear h
  cases hc : checkR a0 a1_0 a1_1 a1_2 with
  | some c =>
    rw [hc] at h'
    obtain ⟨rfl, rfl⟩ := Prod.mk.inj h'
    exact (beside_refused _ _ _ _ c w hc).mono fun e w' ⟨he, hb⟩ => ⟨_, he, Kd.R_nil _ _ _ _ _, hb⟩
  | none =>
    rw [hc] at h'
    obtain ⟨q1, q2, q3, q4, q5⟩ := checkR_ok hc
    refine (beside_any a0 a1_0 a1_1 a1_2 w hGSix q1 q2 q4 q5 q3).mono ?_
    rintro e w' ⟨hv, hb⟩
    by_cases hall : ((offs a0 a1_2).map (sh a1_0 a1_1)).all (fun x => decide (goodP x.f0.f0 x.f0.f1)) = true
    · simp only [hall, ↓reduceIte] at h'
      obtain ⟨rfl, rfl⟩ := Prod.mk.inj h'
      rcases hv with ⟨_, v, rfl, hR⟩ | ⟨hbad, _⟩
      · exact ⟨v, rfl, hR, hb⟩
      · exact absurd (fun x hx => of_decide_eq_true (List.all_eq_true.1 hall x hx)) hbad
    · simp only [hall] at h'
      obtain ⟨rfl, rfl⟩ := Prod.mk.inj h'
      rcases hv with ⟨hgood, _⟩ | ⟨_, rfl⟩
      · exact absurd (List.all_eq_true.2 fun x hx => decide_eq_true (hgood x hx)) hall
      · exact ⟨_, rfl, Kd.R_nil _ _ _ _ _, hb⟩
abbrev PT := S99
/-- the cells beside one, as a kernel keeps them -/
def nearK (l h : Int) : List PT := if l = 1 then (if h = 0 then [⟨1, 0, 0, 1⟩, ⟨0, 1, 0, 2⟩, ⟨-1, 1, 0, 4⟩, ⟨-1, 0, 0, 8⟩, ⟨0, -1, 0, 16⟩, ⟨1, -1, 0, 32⟩] else []) else (offs l h).map fun d => ⟨d.f0.f0, d.f0.f1, d.f1, 1⟩
/-- a kernel in memory -/
def KerAt (w : World) (gk : Nat) (l b0 b1 s0 s1 : Int) : Prop := ∃ A0 c0 A1 c1, w.heap[gk]? = some (.cells #[.int .i64 l, .int .u64 b0, .int .u64 b1, .int .u64 s0, .int .u64 s1, .slice A0 (nearK l 0).length c0, .slice A1 (nearK l 1).length c1] 95 (0, 0)) ∧ Kd.C k99 w A0 (nearK l 0).length (nearK l 0) ∧ Kd.C k99 w A1 (nearK l 1).length (nearK l 1)
theorem KerAt.below {w w' : World} {gk : Nat} {l b0 b1 s0 s1 : Int} (h : KerAt w gk l b0 b1 s0 s1) (hb : Below w.heap.size w w') : KerAt w' gk l b0 b1 s0 s1 := by
  obtain ⟨A0, c0, A1, c1, h1, h2, h3⟩ := h
  exact ⟨A0, c0, A1, c1, blk_below h1 hb, Kd.C_below h2 hb, Kd.C_below h3 hb⟩
/-- one round of the count -/
def stepP (g : Nat → Int) (a b : Int) (n : Int) (p : PT) : Int := if stB g (a + p.f0) (b + p.f1) / 2 ^ p.f2.toNat % 2 = 1 then n + p.f3 else n
def sumP (g : Nat → Int) (a b : Int) (L : List PT) : Int := L.foldl (stepP g a b) 0
theorem sumP_take (g : Nat → Int) (a b : Int) (L : List PT) (k : Nat) (h : k < L.length) : sumP g a b (L.take (k + 1)) = stepP g a b (sumP g a b (L.take k)) L[k] := by
  unfold sumP
  rw [List.take_add_one, List.getElem?_eq_getElem h, List.foldl_append]
  rfl
def okP (p : PT) : Prop := (-1 ≤ p.f0 ∧ p.f0 ≤ 1) ∧ (-1 ≤ p.f1 ∧ p.f1 ≤ 1) ∧ (p.f2 = 0 ∨ p.f2 = 1) ∧ (0 ≤ p.f3 ∧ p.f3 ≤ 32)
theorem nearK_ok (l h : Int) (hl : 1 ≤ l ∧ l ≤ 3) (hh : h = 0 ∨ h = 1) : (nearK l h).length ≤ 12 ∧ ∀ p ∈ nearK l h, okP p := by
  have hl3 : l = 1 ∨ l = 2 ∨ l = 3 := by omega
  rcases hl3 with rfl | rfl | rfl <;> rcases hh with rfl | rfl <;> (refine ⟨by decide, ?_⟩; unfold okP; decide)
theorem stepP_bd (g : Nat → Int) (a b n : Int) (p : PT) (hp : okP p) : n ≤ stepP g a b n p ∧ stepP g a b n p ≤ n + 32 := by
  have := hp.2.2.2
  unfold stepP
  split <;> omega
theorem sumP_bd (g : Nat → Int) (a b : Int) (L : List PT) (hL : ∀ p ∈ L, okP p) (k : Nat) (hk : k ≤ L.length) : 0 ≤ sumP g a b (L.take k) ∧ sumP g a b (L.take k) ≤ 32 * k := by
  induction k with
  | zero => simp [sumP]
  | succ k ih =>
    have := ih (by omega)
    rw [sumP_take g a b L k (by omega)]
    have := stepP_bd g a b (sumP g a b (L.take k)) L[k] (hL _ (List.getElem_mem _))
    omega
theorem stB_bd (g : Nat → Int) (a b : Int) : 0 ≤ stB g a b ∧ stB g a b ≤ 3 := by
  unfold stB
  split <;> omega
abbrev S11 (gx gp : Nat) (g : Nat → Int) (p0 p1 p2 : Int) (W : World) : Prop := (W.cell? ⟨gx, 0, none⟩ = some (.int .u16 (g 0)) ∧ W.cell? ⟨gx, 1, none⟩ = some (.int .u16 (g 1)) ∧ W.cell? ⟨gx, 2, none⟩ = some (.int .u16 (g 2)) ∧ W.cell? ⟨gx, 3, none⟩ = some (.int .u16 (g 3)) ∧ W.cell? ⟨gx, 4, none⟩ = some (.int .u16 (g 4)) ∧ W.cell? ⟨gx, 5, none⟩ = some (.int .u16 (g 5)) ∧ W.cell? ⟨gx, 6, none⟩ = some (.int .u16 (g 6)) ∧ W.cell? ⟨gx, 7, none⟩ = some (.int .u16 (g 7))) ∧ W.cell? ⟨gp, 0, none⟩ = some (.int .i64 p0) ∧ W.cell? ⟨gp, 1, none⟩ = some (.int .i64 p1) ∧ W.cell? ⟨gp, 2, none⟩ = some (.int .i64 p2)
theorem S11.of {W : World} {gx gp : Nat} {g : Nat → Int} {p0 p1 p2 p3 : Int} (h1 : W.heap[gx]? = some (blkO g 52)) (h2 : W.heap[gp]? = some (.cells #[.int .i64 p0, .int .i64 p1, .int .i64 p2, .int .i64 p3] 99 (0, 0))) : S11 gx gp g p0 p1 p2 W :=
  ⟨⟨blk_cell h1 0, blk_cell h1 1, blk_cell h1 2, blk_cell h1 3, blk_cell h1 4, blk_cell h1 5, blk_cell h1 6, blk_cell h1 7⟩, blk_cell h2 0, blk_cell h2 1, blk_cell h2 2⟩
theorem bar_any (l b0 b1 s0 s1 : Int) (g : Nat → Int) (a b h : Int) (gk : Nat) (w : World) (hl : 1 ≤ l ∧ l ≤ 3) (hh : h = 0 ∨ h = 1) (ha : 0 ≤ a ∧ a < 8) (hb : 0 ≤ b ∧ b < 8) (hg : ∀ k, k < 8 → 0 ≤ g k ∧ g k < 65536) (hK : KerAt w gk l b0 b1 s0 s1) :
    Calls Tryd.prog 51 #[.pointer (some ⟨gk, 0, none⟩), blkV g, .int .i64 a, .int .i64 b, .int .i64 h] w fun e w' => e = .returned (.int .i64 (sumP g a b (nearK l h))) ∧ Below w.heap.size w w' := by
  obtain ⟨hn12, hok⟩ := nearK_ok l h hl hh
  have hst := fun a b W => bst_any g a b W hg
  have hsb := fun a b => stB_bd g a b
  obtain ⟨A, c, hk, hC, hkl⟩ : ∃ A c, (∀ W, Below w.heap.size w W → W.cell? ⟨gk, 5 + h.toNat, none⟩ = some (.slice A (nearK l h).length c)) ∧ Kd.C k99 w A (nearK l h).length (nearK l h) ∧ gk < w.heap.size := by
    obtain ⟨A0, c0, A1, c1, h1, h2, h3⟩ := hK
    rcases hh with rfl | rfl
    · exact ⟨A0, c0, fun W hW => blk_cell (blk_below h1 hW) 5, h2, blk_lt h1⟩
    · exact ⟨A1, c1, fun W hW => blk_cell (blk_below h1 hW) 6, h3, blk_lt h1⟩
  have HST := Aside0.mk hst
  have HSB := Aside0.mk hsb
  have HOK := Aside0.mk hok
  have HCC := Aside0.mk hC
  have HKK := Aside0.mk hk
  clear hst hsb hok hC hk hK hg
  go_enter Tryd.func51, Tryd.ntmps51
  go_upto_region 1 with (fail)
  obtain ⟨w3, hw3⟩ : ∃ W, W = w.alloc (blkO g 52) := ⟨_, rfl⟩
  have bx : w3.heap[w.heap.size]? = some (blkO g 52) := by rw [hw3]; exact blk_new _ _
  have hB : Below w.heap.size w w3 := by rw [hw3]; exact (by with_reducible repeat (first | apply below_alloc | apply pw_below_drewN | apply below_drew | refine bset ?_ _ _ (by omega) _ | exact Below.refl _ _))
  rw [← hw3]
  clear hw3
  have q5 := HKK.out w3 hB
  have HB := Aside0.mk hB
  have BX := Aside0.mk bx
  clear bx hB
  obtain ⟨gx, hgx⟩ : ∃ g, g = w.heap.size := ⟨_, rfl⟩
  rw [← hgx] at BX ⊢
  clear hgx
  obtain ⟨L, hL⟩ : ∃ L, L = nearK l h := ⟨_, rfl⟩
  rw [← hL] at q5 HCC HOK hn12
  have HL := Aside0.mk hL
  clear hL
  rcases hh with rfl | rfl
  all_goals
    simp only [Int.toNat_zero, Int.toNat_one, Nat.add_zero, Nat.reduceAdd] at q5
    go_wp2_with fail
    clear q5
    go_loopw [11, 21] (fun nv iv wr => ∃ k : Nat, k ≤ L.length ∧ iv = .int .i64 k ∧ nv = .int .i64 (sumP g a b (L.take k)) ∧ wr.heap[gx]? = some (blkO g 52) ∧ Below w.heap.size w wr) (fun _ iv _ => L.length - (intOf iv).toNat)
    case atStart => exact ⟨0, by omega, rfl, rfl, BX.out, HB.out⟩
    case round =>
      obtain ⟨k, hk, rfl, rfl, bx, hB⟩ := hrel
      have HBR := Aside0.mk hB
      have BXR := Aside0.mk bx
      by_cases hlt : k < L.length
      · have C2 := Kd.C_below HCC.out hB
        obtain ⟨ad, hAd, a0, a1, a2, a3⟩ := at_T99 C2 k (by omega) (by omega)
        rw [Int.toNat_natCast] at a0 a1 a2 a3
        have hx : rd_T99 L k = L[k] := by simp [rd_T99, hlt]
        have hokp := HOK.out _ (List.getElem_mem hlt)
        have hnext := sumP_take g a b L k hlt
        have hbd := sumP_bd g a b L HOK.out k (by omega)
        rw [hx] at a0 a1 a2 a3
        obtain ⟨p, hp⟩ : ∃ p, p = L[k] := ⟨_, rfl⟩
        rw [← hp] at a0 a1 a2 a3 hokp hnext
        obtain ⟨n, hn⟩ : ∃ n, n = sumP g a b (L.take k) := ⟨_, rfl⟩
        rw [← hn] at hnext hbd ⊢
        clear hp hx hn C2 hB bx
        subst hAd
        obtain ⟨p0, p1, p2, p3⟩ := p
        obtain ⟨⟨o1, o2⟩, ⟨o3, o4⟩, o5, o6, o7⟩ := hokp
        simp only at a0 a1 a2 a3 o1 o2 o3 o4 o5 o6 o7
        have hvb := HSB.out (a + p0) (b + p1)
        have hwa : IntKind.i64.wrap (a + p0) = a + p0 := by rw [IntKind.wrap_i64]; omega
        have hwb : IntKind.i64.wrap (b + p1) = b + p1 := by rw [IntKind.wrap_i64]; omega
        have hwn : IntKind.i64.wrap (n + p3) = n + p3 := by rw [IntKind.wrap_i64]; omega
        have hcall := fun W => HST.out (a + p0) (b + p1) W
        have HCALL := Aside0.mk hcall
        have HNX := Aside0.mk hnext
        have hlx := blk_lt BXR.out
        clear hcall hnext
        go_upto_region 5 with (fail)
        obtain ⟨w4, hw4⟩ : ∃ W, W = wr.alloc (.cells #[.int .i64 p0, .int .i64 p1, .int .i64 p2, .int .i64 p3] 99 (0, 0)) := ⟨_, rfl⟩
        have bp4 : w4.heap[wr.heap.size]? = some (.cells #[.int .i64 p0, .int .i64 p1, .int .i64 p2, .int .i64 p3] 99 (0, 0)) := by rw [hw4]; exact blk_new _ _
        have hB4 : Below wr.heap.size wr w4 := by rw [hw4]; exact below_alloc (Below.refl _ _) _
        rw [← hw4]
        clear hw4 a0 a1 a2 a3
        have hz4 := hB4.size
        have BX4 := Aside0.mk (blk_below BXR.out hB4)
        have HB4 := Aside0.mk (HBR.out.trans (hB4.mono HBR.out.size))
        obtain ⟨g13, hg13⟩ : ∃ g, g = wr.heap.size := ⟨_, rfl⟩
        rw [← hg13] at bp4 ⊢
        have BP4 := Aside0.mk bp4
        clear hB4 bp4 hg13
        have hS4 : S11 gx g13 g p0 p1 p2 w4.drew := S11.of (blk_drew BX4.out) (blk_drew BP4.out)
        go_region_held3 (fun W => (W.cell? ⟨gx, 0, none⟩ = some (.int .u16 (g 0)) ∧ W.cell? ⟨gx, 1, none⟩ = some (.int .u16 (g 1)) ∧ W.cell? ⟨gx, 2, none⟩ = some (.int .u16 (g 2)) ∧ W.cell? ⟨gx, 3, none⟩ = some (.int .u16 (g 3)) ∧ W.cell? ⟨gx, 4, none⟩ = some (.int .u16 (g 4)) ∧ W.cell? ⟨gx, 5, none⟩ = some (.int .u16 (g 5)) ∧ W.cell? ⟨gx, 6, none⟩ = some (.int .u16 (g 6)) ∧ W.cell? ⟨gx, 7, none⟩ = some (.int .u16 (g 7))) ∧ W.cell? ⟨g13, 0, none⟩ = some (.int .i64 p0) ∧ W.cell? ⟨g13, 1, none⟩ = some (.int .i64 p1) ∧ W.cell? ⟨g13, 2, none⟩ = some (.int .i64 p2))
          (with_reducible assumption)
          ((with_reducible refine (HCALL.out _).mono ?_; rintro e w5 ⟨rfl, hb5⟩
            have BX5 := Aside0.mk (blk_below (blk_drew BX4.out) hb5)
            have BP5 := Aside0.mk (blk_below (blk_drew BP4.out) hb5)
            have HB5 := Aside0.mk ((below_drew HB4.out).trans (hb5.mono (below_drew HB4.out).size))
            have hS5 : S11 gx g13 g p0 p1 p2 w5 := S11.of BX5.out BP5.out
            clear hb5))
        clear hS4 hS5 BP4 BX4 HB4 hlx
        have w3 := blk_cell BP5.out 3
        simp only [List.getElem?_toArray, List.getElem?_cons_zero, List.getElem?_cons_succ] at w3
        by_cases hbit : stB g (a + p0) (b + p1) / 2 ^ p2.toNat % 2 = 1
        · have hd : (Go.bits .and .i64 (stB g (a + p0) (b + p1) / 2 ^ p2.toNat) 1 == 1) = true := by rw [and_1, hbit]; rfl
          have hst : stepP g a b n ⟨p0, p1, p2, p3⟩ = n + p3 := if_pos hbit
          have HST2 := Aside0.mk hst
          clear hst hbit
          go_wp2
          go_roundw
          case rel => exact ⟨k + 1, by omega, by go_num, by rw [HNX.out, HST2.out], BX5.out, HB5.out⟩
          case measure => simp [intOf]; omega
        · have hd : (Go.bits .and .i64 (stB g (a + p0) (b + p1) / 2 ^ p2.toNat) 1 == 1) = false := by rw [and_1]; simpa using hbit
          have hst : stepP g a b n ⟨p0, p1, p2, p3⟩ = n := if_neg hbit
          have HST2 := Aside0.mk hst
          clear hst hbit
          go_wp2
          go_roundw
          case rel => exact ⟨k + 1, by omega, by go_num, by rw [HNX.out, HST2.out], BX5.out, HB5.out⟩
          case measure => simp [intOf]; omega
      · obtain rfl : k = L.length := by omega
        go_wp2
        go_ret
        exact ⟨by first | (rw [← HL.out]; rfl) | (rw [List.take_length, ← HL.out]; rfl), HBR.out⟩
theorem next_out (l b0 b1 s0 s1 half n : Int) (live : Bool) (w : World) (ho : half < 0 ∨ 1 < half ∨ n < 0 ∨ 63 < n) :
    Calls Tryd.prog 50 #[.agg #[.int .i64 l, .int .u64 b0, .int .u64 b1, .int .u64 s0, .int .u64 s1], .int .i64 half, .bool live, .int .i64 n] w fun e w' => e = .returned (.bool false) ∧ Below w.heap.size w w' := by
  go_enter Tryd.func50, Tryd.ntmps50
  by_cases h1 : half < 0
  · have d1 : decide (half < 0) = true := decide_eq_true h1
    go_wp2
    go_ret
    exact ⟨rfl, (by with_reducible repeat (first | apply below_alloc | apply pw_below_drewN | apply below_drew | refine bset ?_ _ _ (by omega) _ | exact Below.refl _ _))⟩
  · by_cases h2 : 1 < half
    · go_wp2
      go_ret
      exact ⟨rfl, (by with_reducible repeat (first | apply below_alloc | apply pw_below_drewN | apply below_drew | refine bset ?_ _ _ (by omega) _ | exact Below.refl _ _))⟩
    · by_cases h3 : n < 0
      · go_wp2
        go_ret
        exact ⟨rfl, (by with_reducible repeat (first | apply below_alloc | apply pw_below_drewN | apply below_drew | refine bset ?_ _ _ (by omega) _ | exact Below.refl _ _))⟩
      · have h4 : 63 < n := by omega
        go_wp2
        go_ret
        exact ⟨rfl, (by with_reducible repeat (first | apply below_alloc | apply pw_below_drewN | apply below_drew | refine bset ?_ _ _ (by omega) _ | exact Below.refl _ _))⟩
/-- the bit of a number -/
def nxB (x n : Int) : Bool := Go.bits .and .u64 (x / 2 ^ n.toNat) 1 == 1
theorem next_0true (l b0 b1 s0 s1 n : Int) (w : World) (h0 : 0 ≤ n) (h1 : n ≤ 63) :
    Calls Tryd.prog 50 #[.agg #[.int .i64 l, .int .u64 b0, .int .u64 b1, .int .u64 s0, .int .u64 s1], .int .i64 0, .bool true, .int .i64 n] w fun e w' => e = .returned (.bool (nxB s0 n)) ∧ Below w.heap.size w w' := by
  have h2 : ¬ n < 0 := by omega
  have h3 : ¬ 63 < n := by omega
  go_enter Tryd.func50, Tryd.ntmps50
  go_wp2
  go_ret
  exact ⟨rfl, (by with_reducible repeat (first | apply below_alloc | apply pw_below_drewN | apply below_drew | refine bset ?_ _ _ (by omega) _ | exact Below.refl _ _))⟩
theorem next_1true (l b0 b1 s0 s1 n : Int) (w : World) (h0 : 0 ≤ n) (h1 : n ≤ 63) :
    Calls Tryd.prog 50 #[.agg #[.int .i64 l, .int .u64 b0, .int .u64 b1, .int .u64 s0, .int .u64 s1], .int .i64 1, .bool true, .int .i64 n] w fun e w' => e = .returned (.bool (nxB s1 n)) ∧ Below w.heap.size w w' := by
  have h2 : ¬ n < 0 := by omega
  have h3 : ¬ 63 < n := by omega
  go_enter Tryd.func50, Tryd.ntmps50
  go_wp2
  go_ret
  exact ⟨rfl, (by with_reducible repeat (first | apply below_alloc | apply pw_below_drewN | apply below_drew | refine bset ?_ _ _ (by omega) _ | exact Below.refl _ _))⟩
theorem next_0false (l b0 b1 s0 s1 n : Int) (w : World) (h0 : 0 ≤ n) (h1 : n ≤ 63) :
    Calls Tryd.prog 50 #[.agg #[.int .i64 l, .int .u64 b0, .int .u64 b1, .int .u64 s0, .int .u64 s1], .int .i64 0, .bool false, .int .i64 n] w fun e w' => e = .returned (.bool (nxB b0 n)) ∧ Below w.heap.size w w' := by
  have h2 : ¬ n < 0 := by omega
  have h3 : ¬ 63 < n := by omega
  go_enter Tryd.func50, Tryd.ntmps50
  go_wp2
  go_ret
  exact ⟨rfl, (by with_reducible repeat (first | apply below_alloc | apply pw_below_drewN | apply below_drew | refine bset ?_ _ _ (by omega) _ | exact Below.refl _ _))⟩
theorem next_1false (l b0 b1 s0 s1 n : Int) (w : World) (h0 : 0 ≤ n) (h1 : n ≤ 63) :
    Calls Tryd.prog 50 #[.agg #[.int .i64 l, .int .u64 b0, .int .u64 b1, .int .u64 s0, .int .u64 s1], .int .i64 1, .bool false, .int .i64 n] w fun e w' => e = .returned (.bool (nxB b1 n)) ∧ Below w.heap.size w w' := by
  have h2 : ¬ n < 0 := by omega
  have h3 : ¬ 63 < n := by omega
  go_enter Tryd.func50, Tryd.ntmps50
  go_wp2
  go_ret
  exact ⟨rfl, (by with_reducible repeat (first | apply below_alloc | apply pw_below_drewN | apply below_drew | refine bset ?_ _ _ (by omega) _ | exact Below.refl _ _))⟩
def XNext.f (_l b0 b1 s0 s1 half : Int) (live : Bool) (n : Int) : Option Bool := some (if half < 0 ∨ 1 < half ∨ n < 0 ∨ 63 < n then false else nxB (if live = true then (if half = 0 then s0 else s1) else (if half = 0 then b0 else b1)) n)
theorem XNext.calls (a0_0 : Int) (a0_1 : Int) (a0_2 : Int) (a0_3 : Int) (a0_4 : Int) (a1 : Int) (a2 : Bool) (a3 : Int) (r : Bool) (w : World) (h : XNext.f a0_0 a0_1 a0_2 a0_3 a0_4 a1 a2 a3 = some r) :
    Calls Tryd.prog 50 #[.agg #[.int .i64 a0_0, .int .u64 a0_1, .int .u64 a0_2, .int .u64 a0_3, .int .u64 a0_4], .int .i64 a1, .bool a2, .int .i64 a3] w fun e w' => e = .returned (.bool r) ∧ Below w.heap.size w w' := by
  unfold XNext.f at h
  obtain rfl := Option.some.inj h
  by_cases ho : a1 < 0 ∨ 1 < a1 ∨ a3 < 0 ∨ 63 < a3
  · rw [if_pos ho]
    exact next_out _ _ _ _ _ _ _ _ w ho
  · rw [if_neg ho]
    have h1 : a1 = 0 ∨ a1 = 1 := by omega
    rcases h1 with rfl | rfl
    · cases a2
      · exact next_0false _ _ _ _ _ _ w (by omega) (by omega)
      · exact next_0true _ _ _ _ _ _ w (by omega) (by omega)
    · cases a2
      · exact next_1false _ _ _ _ _ _ w (by omega) (by omega)
      · exact next_1true _ _ _ _ _ _ w (by omega) (by omega)
/-- does a cell live in the next generation? -/
def nxK (b0 b1 s0 s1 half : Int) (live : Bool) (n : Int) : Bool := if half < 0 ∨ 1 < half ∨ n < 0 ∨ 63 < n then false else nxB (if live = true then (if half = 0 then s0 else s1) else (if half = 0 then b0 else b1)) n
/-- a row's number of the bits that are there -/
def rowS (q : Nat → Bool) : Nat → Int
  | 0 => 0
  | n + 1 => rowS q n + if q n = true then 2 ^ n else 0
/-- the bits of the next generation -/
def bitQ (l b0 b1 s0 s1 : Int) (g : Nat → Int) (b i : Nat) : Bool :=
  if ((i % 2 : Nat) : Int) < halvesR l then nxK b0 b1 s0 s1 ((i % 2 : Nat) : Int) (decide (stB g ((i / 2 : Nat) : Int) (b : Int) / 2 ^ (i % 2) % 2 = 1)) (sumP g ((i / 2 : Nat) : Int) (b : Int) (nearK l ((i % 2 : Nat) : Int))) else false
def stepG (l b0 b1 s0 s1 : Int) (g : Nat → Int) (k : Nat) : Int := rowS (bitQ l b0 b1 s0 s1 g k) 16
def outU (q : Nat → Nat → Bool) (b n k : Nat) : Int := rowS (q k) (if k < b then 16 else if k = b then n else 0)
theorem rowS_bd (q : Nat → Bool) (n : Nat) : 0 ≤ rowS q n ∧ rowS q n < 2 ^ n := by
  induction n with
  | zero => simp [rowS]
  | succ n ih =>
    unfold rowS
    have : (2 : Int) ^ (n + 1) = 2 ^ n * 2 := by rw [Int.pow_succ]
    have hp : (0 : Int) < 2 ^ n := Int.pow_pos (by decide)
    split <;> omega
theorem outU_row (q : Nat → Nat → Bool) (b : Nat) : outU q b 16 = outU q (b + 1) 0 := by
  funext k
  unfold outU
  congr 1
  by_cases h : k < b
  · rw [if_pos h, if_pos (by omega)]
  · by_cases h2 : k = b
    · rw [if_neg h, if_pos h2, if_pos (by omega)]
    · rw [if_neg h, if_neg h2, if_neg (by omega)]
      split <;> rfl
theorem outU_skip (q : Nat → Nat → Bool) (b n : Nat) (h : q b n = false) : outU q b n = outU q b (n + 1) := by
  funext k
  unfold outU
  by_cases h1 : k < b
  · rw [if_pos h1, if_pos h1]
  · rw [if_neg h1, if_neg h1]
    by_cases h2 : k = b
    · subst h2
      rw [if_pos rfl, if_pos rfl]
      simp [rowS, h]
    · rw [if_neg h2, if_neg h2]
theorem outU_put (q : Nat → Nat → Bool) (b n : Nat) (h : q b n = true) : (fun k => if k = b then outU q b n b + 2 ^ n else outU q b n k) = outU q b (n + 1) := by
  funext k
  unfold outU
  by_cases h2 : k = b
  · subst h2
    rw [if_pos rfl, if_neg (Nat.lt_irrefl k), if_neg (Nat.lt_irrefl k), if_pos rfl, if_pos rfl]
    simp [rowS, h]
  · rw [if_neg h2]
    simp only [h2, ↓reduceIte]
theorem outU_at (q : Nat → Nat → Bool) (b n : Nat) : outU q b n b = rowS (q b) n := by
  unfold outU
  rw [if_neg (Nat.lt_irrefl b), if_pos rfl]
theorem arr8_get (f : Nat → Int) (b : Nat) (hb : b < 8) : (#[.int .u16 (f 0), .int .u16 (f 1), .int .u16 (f 2), .int .u16 (f 3), .int .u16 (f 4), .int .u16 (f 5), .int .u16 (f 6), .int .u16 (f 7)] : Array Value)[b]? = some (.int .u16 (f b)) := by
  have : b = 0 ∨ b = 1 ∨ b = 2 ∨ b = 3 ∨ b = 4 ∨ b = 5 ∨ b = 6 ∨ b = 7 := by omega
  rcases this with rfl | rfl | rfl | rfl | rfl | rfl | rfl | rfl <;> rfl
theorem arr8_set (f : Nat → Int) (b : Nat) (hb : b < 8) (v : Int) : (#[.int .u16 (f 0), .int .u16 (f 1), .int .u16 (f 2), .int .u16 (f 3), .int .u16 (f 4), .int .u16 (f 5), .int .u16 (f 6), .int .u16 (f 7)] : Array Value).setIfInBounds b (.int .u16 v) = #[.int .u16 ((fun k => if k = b then v else f k) 0), .int .u16 ((fun k => if k = b then v else f k) 1), .int .u16 ((fun k => if k = b then v else f k) 2), .int .u16 ((fun k => if k = b then v else f k) 3), .int .u16 ((fun k => if k = b then v else f k) 4), .int .u16 ((fun k => if k = b then v else f k) 5), .int .u16 ((fun k => if k = b then v else f k) 6), .int .u16 ((fun k => if k = b then v else f k) 7)] := by
  have : b = 0 ∨ b = 1 ∨ b = 2 ∨ b = 3 ∨ b = 4 ∨ b = 5 ∨ b = 6 ∨ b = 7 := by omega
  rcases this with rfl | rfl | rfl | rfl | rfl | rfl | rfl | rfl <;> rfl
theorem or_new (x : Int) (n : Nat) (hn : n < 16) (h0 : 0 ≤ x) (h1 : x < 2 ^ n) : Go.bits .or .u16 x (IntKind.u16.wrap (2 ^ n)) = x + 2 ^ n := by
  have hm : (2 : Int) ^ n ≤ 32768 := by
    have : n = 0 ∨ n = 1 ∨ n = 2 ∨ n = 3 ∨ n = 4 ∨ n = 5 ∨ n = 6 ∨ n = 7 ∨ n = 8 ∨ n = 9 ∨ n = 10 ∨ n = 11 ∨ n = 12 ∨ n = 13 ∨ n = 14 ∨ n = 15 := by omega
    rcases this with rfl | rfl | rfl | rfl | rfl | rfl | rfl | rfl | rfl | rfl | rfl | rfl | rfl | rfl | rfl | rfl <;> decide
  have hp : (0 : Int) < 2 ^ n := Int.pow_pos (by decide)
  obtain ⟨a, rfl⟩ := Int.eq_ofNat_of_zero_le h0
  have e : (2 : Int) ^ n = ((2 ^ n : Nat) : Int) := by push_cast; rfl
  have hx2 : a < 2 ^ n := by rw [e] at h1; omega
  rw [Go.IntKind.wrap_u16, show (2 : Int) ^ n % 65536 = 2 ^ n by omega, e, Go.u16_or_nat a (2 ^ n) (by omega) (by omega), Nat.or_comm, Go.nat_join n _ _ (Nat.mod_self _) hx2]
  omega
abbrev S13 (gx gk : Nat) (g : Nat → Int) (l b0 b1 s0 s1 : Int) (W : World) : Prop := (W.cell? ⟨gx, 0, none⟩ = some (.int .u16 (g 0)) ∧ W.cell? ⟨gx, 1, none⟩ = some (.int .u16 (g 1)) ∧ W.cell? ⟨gx, 2, none⟩ = some (.int .u16 (g 2)) ∧ W.cell? ⟨gx, 3, none⟩ = some (.int .u16 (g 3)) ∧ W.cell? ⟨gx, 4, none⟩ = some (.int .u16 (g 4)) ∧ W.cell? ⟨gx, 5, none⟩ = some (.int .u16 (g 5)) ∧ W.cell? ⟨gx, 6, none⟩ = some (.int .u16 (g 6)) ∧ W.cell? ⟨gx, 7, none⟩ = some (.int .u16 (g 7))) ∧ W.cell? ⟨gk, 0, none⟩ = some (.int .i64 l) ∧ W.cell? ⟨gk, 1, none⟩ = some (.int .u64 b0) ∧ W.cell? ⟨gk, 2, none⟩ = some (.int .u64 b1) ∧ W.cell? ⟨gk, 3, none⟩ = some (.int .u64 s0) ∧ W.cell? ⟨gk, 4, none⟩ = some (.int .u64 s1)
theorem KerAt.cells {w : World} {gk : Nat} {l b0 b1 s0 s1 : Int} (h : KerAt w gk l b0 b1 s0 s1) : w.cell? ⟨gk, 0, none⟩ = some (.int .i64 l) ∧ w.cell? ⟨gk, 1, none⟩ = some (.int .u64 b0) ∧ w.cell? ⟨gk, 2, none⟩ = some (.int .u64 b1) ∧ w.cell? ⟨gk, 3, none⟩ = some (.int .u64 s0) ∧ w.cell? ⟨gk, 4, none⟩ = some (.int .u64 s1) := by
  obtain ⟨A0, c0, A1, c1, h1, _⟩ := h
  exact ⟨blk_cell h1 0, blk_cell h1 1, blk_cell h1 2, blk_cell h1 3, blk_cell h1 4⟩
theorem KerAt.lt {w : World} {gk : Nat} {l b0 b1 s0 s1 : Int} (h : KerAt w gk l b0 b1 s0 s1) : gk < w.heap.size := by
  obtain ⟨A0, c0, A1, c1, h1, _⟩ := h
  exact blk_lt h1
theorem S13.of {W : World} {gx gk : Nat} {g : Nat → Int} {l b0 b1 s0 s1 : Int} (h1 : W.heap[gx]? = some (blkO g 52)) (h2 : KerAt W gk l b0 b1 s0 s1) : S13 gx gk g l b0 b1 s0 s1 W :=
  ⟨⟨blk_cell h1 0, blk_cell h1 1, blk_cell h1 2, blk_cell h1 3, blk_cell h1 4, blk_cell h1 5, blk_cell h1 6, blk_cell h1 7⟩, h2.cells⟩
theorem bstep_any (l b0 b1 s0 s1 : Int) (g : Nat → Int) (gk : Nat) (w : World) (hl : 1 ≤ l ∧ l ≤ 3) (hg : ∀ k, k < 8 → 0 ≤ g k ∧ g k < 65536) (hK : KerAt w gk l b0 b1 s0 s1) :
    Calls Tryd.prog 16 #[.pointer (some ⟨gk, 0, none⟩), blkV g] w fun e w' => e = .returned (blkV (stepG l b0 b1 s0 s1 g)) ∧ Below w.heap.size w w' := by
  have hst := fun a b W => bst_any g a b W hg
  have HST := Aside0.mk hst
  have HG := Aside0.mk hg
  have HK := Aside0.mk hK
  have hkl := hK.lt
  obtain ⟨q, hq⟩ : ∃ q, q = bitQ l b0 b1 s0 s1 g := ⟨_, rfl⟩
  have HQ := Aside0.mk hq
  have hhv : halvesR l = 1 ∨ halvesR l = 2 := by unfold halvesR; split <;> omega
  have hodd : ∀ b a, halvesR l = 1 → q b (2 * a + 1) = false := fun b a e => by rw [hq]; unfold bitQ; rw [e, show (2 * a + 1) % 2 = 1 by omega]; rfl
  have HODD := Aside0.mk hodd
  have hHalves := halves_any l
  have HHV := Aside0.mk hHalves
  obtain ⟨hv, hhe⟩ : ∃ hv, hv = halvesR l := ⟨_, rfl⟩
  rw [← hhe] at hhv HHV HODD
  have HE := Aside0.mk hhe
  clear hst hg hK hq hodd hHalves hhe
  go_enter Tryd.func16, Tryd.ntmps16
  go_upto_region 2 with (fail)
  obtain ⟨w3, hw3⟩ : ∃ W, W = ((w.alloc (blkO g 52)).alloc (blkO (fun _ => 0) 52)).alloc (blkO (fun _ => 0) 52) := ⟨_, rfl⟩
  have bq : w3.heap[w.heap.size]? = some (blkO g 52) := by rw [hw3]; exact blk_alloc (blk_alloc (blk_new _ _) _) _
  have bo : w3.heap[w.heap.size + 1]? = some (blkO (fun _ => 0) 52) := by
    have := blk_new (w.alloc (blkO g 52)) (blkO (fun _ => 0) 52)
    rw [World.size_alloc] at this
    rw [hw3]
    exact blk_alloc this _
  have bx : w3.heap[w.heap.size + 1 + 1]? = some (blkO (fun _ => 0) 52) := by
    have := blk_new ((w.alloc (blkO g 52)).alloc (blkO (fun _ => 0) 52)) (blkO (fun _ => 0) 52)
    rw [World.size_alloc, World.size_alloc] at this
    rw [hw3]
    exact this
  have hB : Below w.heap.size w w3 := by rw [hw3]; exact (by with_reducible repeat (first | apply below_alloc | apply pw_below_drewN | apply below_drew | refine bset ?_ _ _ (by omega) _ | exact Below.refl _ _))
  rw [← hw3]
  clear hw3
  obtain ⟨g1, hg1⟩ : ∃ g, g = w.heap.size := ⟨_, rfl⟩
  obtain ⟨g2, hg2⟩ : ∃ g, g = w.heap.size + 1 := ⟨_, rfl⟩
  obtain ⟨g3, hg3⟩ : ∃ g, g = w.heap.size + 1 + 1 := ⟨_, rfl⟩
  rw [← hg1] at bq
  rw [← hg3] at bx ⊢
  rw [← hg2] at bo ⊢
  rw [← hg1]
  have n13 : g1 ≠ g3 := by omega
  have n23 : g2 ≠ g3 := by omega
  have l2 : w.heap.size ≤ g2 := by omega
  have l3 : w.heap.size ≤ g3 := by omega
  have hB3 := hB
  clear hg1 hg2 hg3
  go_wp2_with fail
  have R0 : ∃ W, W = w3 ∧ W.heap[g1]? = some (blkO g 52) ∧ W.heap[g2]? = some (blkO (fun _ => 0) 52) ∧ W.heap[g3]? = some (blkO (outU q 0 0) 52) ∧ Below w.heap.size w W := ⟨w3, rfl, bq, bo, by
    have e : outU q 0 0 = fun _ => 0 := by
      funext k
      unfold outU
      rw [if_neg (Nat.not_lt_zero k)]
      split <;> rfl
    rw [e]; exact bx, hB⟩
  obtain ⟨_, rfl, r1, r2, r3, r4⟩ := R0
  have R := Aside0.mk (And.intro r1 (And.intro r2 (And.intro r3 r4)))
  clear r1 r2 r3 r4 bq bo bx hB hB3
  go_loopw [10] (fun iv wr => ∃ b : Nat, b ≤ 8 ∧ iv = .int .i64 b ∧ wr.heap[g1]? = some (blkO g 52) ∧ wr.heap[g2]? = some (blkO (fun _ => 0) 52) ∧ wr.heap[g3]? = some (blkO (outU q b 0) 52) ∧ Below w.heap.size w wr) (fun iv _ => 8 - (intOf iv).toNat)
  case atStart => exact ⟨0, by omega, rfl, R.out⟩
  case round =>
    obtain ⟨b, hb, rfl, hR⟩ := hrel
    have RB := Aside0.mk hR
    clear hR R
    by_cases hb8 : b < 8
    · go_wp2_with fail
      go_loopw [13] (fun iv wr => ∃ a : Nat, a ≤ 8 ∧ iv = .int .i64 a ∧ wr.heap[g1]? = some (blkO g 52) ∧ wr.heap[g2]? = some (blkO (fun _ => 0) 52) ∧ wr.heap[g3]? = some (blkO (outU q b (2 * a)) 52) ∧ Below w.heap.size w wr) (fun iv _ => 8 - (intOf iv).toNat)
      case atStart => exact ⟨0, by omega, rfl, RB.out⟩
      case round =>
        obtain ⟨a, ha, rfl, hR⟩ := hrel
        have RA := Aside0.mk hR
        have hkk := (HK.out.below hR.2.2.2).cells.1
        clear hR RB
        by_cases ha8 : a < 8
        · go_wp2_with (go_at_call 49; refine (HHV.out _).mono ?_; rintro e w' ⟨rfl, rfl⟩)
          have hvn : ((hv.toNat : Nat) : Int) = hv := by omega
          go_loopw [22] (fun iv wr => ∃ h : Nat, h ≤ hv.toNat ∧ iv = .int .i64 h ∧ wr.heap[g1]? = some (blkO g 52) ∧ wr.heap[g2]? = some (blkO (fun _ => 0) 52) ∧ wr.heap[g3]? = some (blkO (outU q b (2 * a + h)) 52) ∧ Below w.heap.size w wr) (fun iv _ => 2 - (intOf iv).toNat)
          case atStart => exact ⟨0, by omega, rfl, RA.out⟩
          case round =>
            obtain ⟨h, hh, rfl, r1, r2, r3, r4⟩ := hrel
            by_cases hlt : (h : Int) < hv
            · have hh2 : (h : Int) = 0 ∨ (h : Int) = 1 := by omega
              have XO := And.intro (blk_cell r1 0) (And.intro (blk_cell r1 1) (And.intro (blk_cell r1 2) (And.intro (blk_cell r1 3) (And.intro (blk_cell r1 4) (And.intro (blk_cell r1 5) (And.intro (blk_cell r1 6) (blk_cell r1 7)))))))
              simp only [List.getElem?_toArray, List.getElem?_cons_zero, List.getElem?_cons_succ] at XO
              obtain ⟨x0, x1, x2, x3, x4, x5, x6, x7⟩ := XO
              have RW := Aside0.mk (And.intro r1 (And.intro r2 (And.intro r3 r4)))
              clear r1 r2 r3 r4 RA hkk
              go_wp2_with fail
              with_reducible refine (HST.out _ _ _).mono ?_
              rintro e w6 ⟨rfl, hb6⟩
              clear x0 x1 x2 x3 x4 x5 x6 x7
              obtain ⟨r1, r2, r3, r4⟩ := RW.out
              have z1 := blk_lt r1
              have z2 := blk_lt r2
              have z3 := blk_lt r3
              have X6 := Aside0.mk (blk_below r1 hb6)
              have Y6 := Aside0.mk (blk_below r2 hb6)
              have O6 := Aside0.mk (blk_below r3 hb6)
              have B6 := Aside0.mk (r4.trans (hb6.mono r4.size))
              clear r1 r2 r3 r4 hb6 RW z1 z2 z3
              obtain ⟨lv, hlv⟩ : ∃ lv : Bool, lv = decide (stB g (a : Int) (b : Int) / 2 ^ h % 2 = 1) := ⟨_, rfl⟩
              have hlv2 : (Go.bits .and .i64 (stB g (a : Int) (b : Int) / 2 ^ h) 1 == 1) = lv := by rw [and_1, hlv]; rfl
              have hsh : 0 ≤ (h : Int) ∧ (h : Int) ≤ 64 := by omega
              obtain ⟨hsh1, hsh2⟩ := hsh
              have HLV := Aside0.mk hlv
              clear hlv
              go_upto_region 12 with (fail)
              clear hlv2
              obtain ⟨wd, hwd⟩ : ∃ W, W = w6.drew := ⟨_, rfl⟩
              have BD := Aside0.mk (show Below w.heap.size w wd by rw [hwd]; exact below_drew B6.out)
              have KD := HK.out.below BD.out
              have XD := Aside0.mk (show wd.heap[g1]? = some (blkO g 52) by rw [hwd]; exact blk_drew X6.out)
              have YD := Aside0.mk (show wd.heap[g2]? = some (blkO (fun _ => 0) 52) by rw [hwd]; exact blk_drew Y6.out)
              have OD := Aside0.mk (show wd.heap[g3]? = some (blkO (outU q b (2 * a + h)) 52) by rw [hwd]; exact blk_drew O6.out)
              have hSD : S13 g1 gk g l b0 b1 s0 s1 w6.drew := hwd ▸ S13.of XD.out KD
              obtain ⟨n, hn⟩ : ∃ n, n = sumP g (a : Int) (b : Int) (nearK l (h : Int)) := ⟨_, rfl⟩
              have cA := bar_any l b0 b1 s0 s1 g (a : Int) (b : Int) (h : Int) gk w6.drew hl hh2 (by omega) (by omega) HG.out (hwd ▸ KD)
              rw [← hn] at cA
              obtain ⟨r, hr⟩ : ∃ r, r = nxK b0 b1 s0 s1 (h : Int) lv n := ⟨_, rfl⟩
              have cN := fun W => XNext.calls l b0 b1 s0 s1 (h : Int) lv n r W (by rw [hr]; rfl)
              have hqr : q b (2 * a + h) = r := by
                have e1 : (2 * a + h) % 2 = h := by omega
                have e2 : (2 * a + h) / 2 = a := by omega
                rw [HQ.out, hr, HLV.out, hn]
                unfold bitQ
                rw [e1, e2, ← HE.out, if_pos hlt]
              have CA := Aside0.mk cA
              have CN := Aside0.mk cN
              have HQR := Aside0.mk hqr
              have zd : w6.drew.heap.size = wd.heap.size := by rw [hwd]
              have XE := Aside0.mk (hwd ▸ XD.out)
              have YE := Aside0.mk (hwd ▸ YD.out)
              have OE := Aside0.mk (hwd ▸ OD.out)
              have BE := Aside0.mk (hwd ▸ BD.out)
              have KE := Aside0.mk (hwd ▸ KD)
              clear cA cN hqr hr hn BD XD YD OD KD hwd X6 Y6 O6 B6 zd HLV
              go_region_held3 (fun W => (W.cell? ⟨g1, 0, none⟩ = some (.int .u16 (g 0)) ∧ W.cell? ⟨g1, 1, none⟩ = some (.int .u16 (g 1)) ∧ W.cell? ⟨g1, 2, none⟩ = some (.int .u16 (g 2)) ∧ W.cell? ⟨g1, 3, none⟩ = some (.int .u16 (g 3)) ∧ W.cell? ⟨g1, 4, none⟩ = some (.int .u16 (g 4)) ∧ W.cell? ⟨g1, 5, none⟩ = some (.int .u16 (g 5)) ∧ W.cell? ⟨g1, 6, none⟩ = some (.int .u16 (g 6)) ∧ W.cell? ⟨g1, 7, none⟩ = some (.int .u16 (g 7))) ∧ W.cell? ⟨gk, 0, none⟩ = some (.int .i64 l) ∧ W.cell? ⟨gk, 1, none⟩ = some (.int .u64 b0) ∧ W.cell? ⟨gk, 2, none⟩ = some (.int .u64 b1) ∧ W.cell? ⟨gk, 3, none⟩ = some (.int .u64 s0) ∧ W.cell? ⟨gk, 4, none⟩ = some (.int .u64 s1))
                (with_reducible assumption)
                (first
                  | (go_at_call 51
                     with_reducible refine CA.out.mono ?_
                     rintro e w7 ⟨rfl, hb7⟩
                     have z1 := BE.out.size
                     have X7 := Aside0.mk (blk_below XE.out hb7)
                     have Y7 := Aside0.mk (blk_below YE.out hb7)
                     have O7 := Aside0.mk (blk_below OE.out hb7)
                     have B7 := Aside0.mk (BE.out.trans (hb7.mono z1))
                     have K7 := Aside0.mk (KE.out.below hb7)
                     have hS7 : S13 g1 gk g l b0 b1 s0 s1 w7 := S13.of X7.out K7.out
                     clear z1 hb7 XE YE OE BE KE)
                  | (go_at_call 50
                     with_reducible refine (CN.out _).mono ?_
                     rintro e w8 ⟨rfl, hb8⟩
                     have z1 := B7.out.size
                     have X8 := Aside0.mk (blk_below X7.out hb8)
                     have Y8 := Aside0.mk (blk_below Y7.out hb8)
                     have O8 := Aside0.mk (blk_below O7.out hb8)
                     have B8 := Aside0.mk (B7.out.trans (hb8.mono z1))
                     have K8 := Aside0.mk (K7.out.below hb8)
                     have hS8 : S13 g1 gk g l b0 b1 s0 s1 w8 := S13.of X8.out K8.out
                     clear z1 hb8 X7 Y7 O7 B7 K7))
              clear hSD hS7 hS8 K8 CA CN
              have hqv := HQR.out
              cases r with
              | false =>
                have hsk := outU_skip q b (2 * a + h) hqv
                have O9 := O8.out
                rw [hsk] at O9
                have O10 := Aside0.mk O9
                clear O9 O8 hsk hqv HQR
                go_wp2
                go_roundw
                case rel => exact ⟨h + 1, by omega, by go_num, X8.out, Y8.out, O10.out, B8.out⟩
                case measure => simp [intOf]; omega
              | true =>
                have hpt := outU_put q b (2 * a + h) hqv
                have hrow := outU_at q b (2 * a + h)
                obtain ⟨hr0, hr1⟩ := rowS_bd (q b) (2 * a + h)
                rw [← hrow] at hr0 hr1
                have xb := (blk_cell O8.out b).trans (arr8_get (outU q b (2 * a + h)) b hb8)
                have xf := blk_frozen O8.out
                have hnew := or_new (outU q b (2 * a + h) b) (2 * a + h) (by omega) hr0 hr1
                have HPT := Aside0.mk hpt
                have hw1 : IntKind.i64.wrap (2 * (a : Int)) = 2 * (a : Int) := by rw [IntKind.wrap_i64]; omega
                have hw2 : IntKind.i64.wrap (2 * (a : Int) + (h : Int)) = 2 * (a : Int) + (h : Int) := by rw [IntKind.wrap_i64]; omega
                have hsh3 : 0 ≤ 2 * (a : Int) + (h : Int) := by omega
                have hsh4 : 2 * (a : Int) + (h : Int) ≤ 16 := by omega
                have htn : (2 * (a : Int) + (h : Int)).toNat = 2 * a + h := by omega
                clear hpt hrow hr0 hr1 hqv HQR
                go_upto_region 13 with (fail)
                go_region
                all_goals
                  go_wp2
                  go_roundw
                  case rel => exact ⟨h + 1, by omega, by go_num, blk_far (blk_drew X8.out) (p := ⟨g3, b, none⟩) n13 _, blk_far (blk_drew Y8.out) (p := ⟨g3, b, none⟩) n23 _, by rw [← Nat.add_assoc, ← HPT.out]; exact blk_put (blk_drew O8.out) b _ (arr8_set _ b hb8 _), Below.setCell (p := ⟨g3, b, none⟩) (below_drew B8.out) l3 _⟩
                  case measure => simp [intOf]; omega
            · have hhe : h = hv.toNat := by omega
              have r3' : wr.heap[g3]? = some (blkO (outU q b (2 * (a + 1))) 52) := by
                rcases hhv with e | e
                · have hs := outU_skip q b (2 * a + 1) (HODD.out b a e)
                  rw [show 2 * (a + 1) = 2 * a + 1 + 1 by omega, ← hs, show 2 * a + 1 = 2 * a + h by omega]
                  exact r3
                · rw [show 2 * (a + 1) = 2 * a + h by omega]
                  exact r3
              have RW := Aside0.mk (And.intro r1 (And.intro r2 (And.intro r3' r4)))
              clear r1 r2 r3 r3' r4 RA hkk
              go_wp2
              exact ⟨⟨_, _, _, .int .i64 ((a : Int) + 1), ⟨a + 1, by omega, by go_num, RW.out⟩, rfl, rfl, rfl, rfl⟩, by simp [intOf]; omega⟩
        · obtain rfl : a = 8 := by omega
          have e16 := outU_row q b
          have RA2 := RA.out
          rw [show 2 * 8 = 16 from rfl, e16] at RA2
          have RA3 := Aside0.mk RA2
          clear RA RA2 e16 hkk
          go_wp2
          go_roundw
          case rel => exact ⟨b + 1, by omega, by go_num, RA3.out⟩
          case measure => simp [intOf]; omega
    · obtain rfl : b = 8 := by omega
      obtain ⟨r1, r2, r3, r4⟩ := RB.out
      have XO := And.intro (blk_cell r3 0) (And.intro (blk_cell r3 1) (And.intro (blk_cell r3 2) (And.intro (blk_cell r3 3) (And.intro (blk_cell r3 4) (And.intro (blk_cell r3 5) (And.intro (blk_cell r3 6) (blk_cell r3 7)))))))
      have YO := And.intro (blk_cell r2 0) (And.intro (blk_cell r2 1) (And.intro (blk_cell r2 2) (And.intro (blk_cell r2 3) (And.intro (blk_cell r2 4) (And.intro (blk_cell r2 5) (And.intro (blk_cell r2 6) (blk_cell r2 7)))))))
      have yf := blk_frozen r2
      simp only [List.getElem?_toArray, List.getElem?_cons_zero, List.getElem?_cons_succ] at XO YO
      obtain ⟨x0, x1, x2, x3, x4, x5, x6, x7⟩ := XO
      obtain ⟨y0, y1, y2, y3, y4, y5, y6, y7⟩ := YO
      have RO := Aside0.mk r2
      have HB := Aside0.mk r4
      clear r1 r2 r3 r4
      go_wp2
      have hfin : blkV (outU q 8 0) = blkV (stepG l b0 b1 s0 s1 g) := by rw [HQ.out]; rfl
      exact bodyPost_ret (results_cell_row rfl _ _ g2 52 _ (0, 0) _ rfl (set8_blk (outU q 8 0) RO.out) Tryd.underlying52 rfl (by kernel_rfl)) rfl ⟨congrArg Ending.returned hfin, set8_below (outU q 8 0) HB.out l2⟩
section
open Go.ChangeMaps Go.MapKept Go.WideShapes
attribute [local go_sem] max2_int min2_int max_two min_two max_three min_three max_four min_four
abbrev memO (gk mb : Nat) (most made : Int) : Obj := .cells #[.pointer (some ⟨gk, 0, none⟩), .int .i64 most, .map (some mb), .int .i64 made] 121 (0, 0)
/-- a memo in memory: its kernel, how many at most, how many were made, what is known -/
structure MemoAt (w : World) (gm mb gk : Nat) (l b0 b1 s0 s1 most made : Int) (L : Kn) : Prop where
  blk : w.heap[gm]? = some (memO gk mb most made)
  map : MapAt Tryd.prog 123 w mb (L.map encK)
  ker : ∃ wk, KerAt wk gk l b0 b1 s0 s1 ∧ Below wk.heap.size wk w ∧ wk.heap.size ≤ gm ∧ wk.heap.size ≤ mb
  ne : gm ≠ mb
theorem MemoAt.below {w w' : World} {gm mb gk : Nat} {l b0 b1 s0 s1 most made : Int} {L : Kn} (h : MemoAt w gm mb gk l b0 b1 s0 s1 most made L) (hb : Below w.heap.size w w') : MemoAt w' gm mb gk l b0 b1 s0 s1 most made L := by
  obtain ⟨wk, h1, h2, h3, h4⟩ := h.ker
  exact ⟨blk_below h.blk hb, h.map.below hb, ⟨wk, h1, h2.trans (hb.mono h2.size), h3, h4⟩, h.ne⟩
theorem MemoAt.kerAt {w : World} {gm mb gk : Nat} {l b0 b1 s0 s1 most made : Int} {L : Kn} (h : MemoAt w gm mb gk l b0 b1 s0 s1 most made L) : KerAt w gk l b0 b1 s0 s1 := by
  obtain ⟨wk, h1, h2, _⟩ := h.ker
  exact h1.below h2
theorem MemoAt.made_put {w : World} {gm mb gk : Nat} {l b0 b1 s0 s1 most made : Int} {L : Kn} (h : MemoAt w gm mb gk l b0 b1 s0 s1 most made L) (m' : Int) : MemoAt (w.setCell ⟨gm, 3, none⟩ (.int .i64 m')) gm mb gk l b0 b1 s0 s1 most m' L := by
  obtain ⟨wk, h1, h2, h3, h4⟩ := h.ker
  exact ⟨blk_put h.blk 3 _ rfl, h.map.of_heap (Below.heap_setCell _ ⟨gm, 3, none⟩ _ mb (fun e => h.ne e.symm)), ⟨wk, h1, Below.setCell (p := ⟨gm, 3, none⟩) h2 h3 _, h3, h4⟩, h.ne⟩
theorem MemoAt.turned {w w1 : World} {gm mb gk : Nat} {l b0 b1 s0 s1 most made : Int} {L L' : Kn} (h : MemoAt w gm mb gk l b0 b1 s0 s1 most made L) (ht : w.mapTurned w1 mb) (hm : MapAt Tryd.prog 123 w1 mb (L'.map encK)) : MemoAt w1 gm mb gk l b0 b1 s0 s1 most made L' := by
  obtain ⟨wk, h1, h2, h3, h4⟩ := h.ker
  exact ⟨(mapTurned_heap ht h.ne).trans h.blk, hm, ⟨wk, h1, pw_below_grown h2 _ h2.size ht.grown (fun k hk => by cases hk; exact h4), h3, h4⟩, h.ne⟩
theorem memo_new (gk : Nat) (l b0 b1 s0 s1 most : Int) (w : World) (hK : KerAt w gk l b0 b1 s0 s1) (hm : 0 ≤ most) :
    Calls Tryd.prog 28 #[.pointer (some ⟨gk, 0, none⟩), .int .i64 most] w fun e w' => ∃ gm mb : Nat, e = .returned (.pointer (some ⟨gm, 0, none⟩)) ∧ MemoAt w' gm mb gk l b0 b1 s0 s1 most 0 [] ∧ w.heap.size ≤ gm ∧ w.heap.size ≤ mb ∧ Below w.heap.size w w' := by
  have hmm := @run_makeMap Tryd.prog
  have hmx : max most 0 = most := by omega
  have HK := Aside0.mk hK
  clear hK
  go_enter Tryd.func28, Tryd.ntmps28
  go_wp2
  go_ret
  have hB1 : Below w.heap.size w (w.alloc (.map #[] 0)) := below_alloc (Below.refl _ _) _
  have hz1 : (w.alloc (.map #[] 0)).heap.size = w.heap.size + 1 := by simp
  have hM1 : MapAt Tryd.prog 123 (w.alloc (.map #[] 0)) w.heap.size [] := MapAt_made _ _ _
  have hB2 : Below w.heap.size w ((w.alloc (.map #[] 0)).alloc (memO gk w.heap.size most 0)) := below_alloc hB1 _
  have hb := blk_new (w.alloc (.map #[] 0)) (memO gk w.heap.size most 0)
  rw [hz1] at hb
  exact ⟨w.heap.size + 1, w.heap.size, rfl, ⟨hb, hM1.below (below_alloc (Below.refl _ _) _), ⟨w, HK.out, hB2, by omega, by omega⟩, by omega⟩, by omega, by omega, hB2⟩
theorem memo_made (gm mb gk : Nat) (l b0 b1 s0 s1 most made : Int) (L : Kn) (w : World) (h : MemoAt w gm mb gk l b0 b1 s0 s1 most made L) :
    Calls Tryd.prog 33 #[.pointer (some ⟨gm, 0, none⟩)] w fun e w' => e = .returned (.int .i64 made) ∧ w' = w := by
  have c3 := blk_cell h.blk 3
  simp only [List.getElem?_toArray, List.getElem?_cons_zero, List.getElem?_cons_succ] at c3
  clear h
  go_enter Tryd.func33, Tryd.ntmps33
  go_wp2
  go_ret
  exact ⟨rfl, rfl⟩
theorem memo_kept (gm mb gk : Nat) (l b0 b1 s0 s1 most made : Int) (L : Kn) (w : World) (h : MemoAt w gm mb gk l b0 b1 s0 s1 most made L) :
    Calls Tryd.prog 34 #[.pointer (some ⟨gm, 0, none⟩)] w fun e w' => e = .returned (.int .i64 L.length) ∧ w' = w := by
  have c2 := blk_cell h.blk 2
  simp only [List.getElem?_toArray, List.getElem?_cons_zero, List.getElem?_cons_succ] at c2
  have hlen := h.map.len Tryd.underlying119 3
  rw [List.length_map] at hlen
  clear h
  go_enter Tryd.func34, Tryd.ntmps34
  go_wp2
  go_ret
  exact ⟨rfl, rfl⟩
theorem memo_clear (gm mb gk : Nat) (l b0 b1 s0 s1 most made : Int) (L : Kn) (w : World) (h : MemoAt w gm mb gk l b0 b1 s0 s1 most made L) :
    Calls Tryd.prog 35 #[.pointer (some ⟨gm, 0, none⟩)] w fun e w' => e = .returned (.tuple #[]) ∧ MemoAt w' gm mb gk l b0 b1 s0 s1 most made [] ∧ w.mapTurned w' mb := by
  have c2 := blk_cell h.blk 2
  simp only [List.getElem?_toArray, List.getElem?_cons_zero, List.getElem?_cons_succ] at c2
  obtain ⟨w1, hrun, hm1, ht1⟩ := h.map.wipe Tryd.underlying119 0
  have HF := Aside0.mk (And.intro (h.turned (L' := []) ht1 hm1) ht1)
  clear h hm1 ht1
  go_enter Tryd.func35, Tryd.ntmps35
  go_wp2
  exact ⟨rfl, .tuple #[], by simp [results, Tryd.results35, go_sem], rfl, HF.out⟩
end
/-- bytes, of which j are there already -/
def sum4 (f : Nat → Int) (j : Nat) : Int := (if 0 < j then f 0 else 0) + (if 1 < j then 256 * f 1 else 0) + (if 2 < j then 65536 * f 2 else 0) + (if 3 < j then 16777216 * f 3 else 0)
/-- what a row of the middle gives -/
def midB (g : Nat → Int) (k : Nat) : Int := g (k + 2) / 16 % 256
def midF (g : Nat → Int) (j : Nat) : Int := sum4 (midB g) j
theorem and255h (x : Int) (h0 : 0 ≤ x) (h1 : x < 65536) : Go.bits .and .u16 x 255 = x % 256 := by
  rw [Go.u16_and x 255 h0 h1 (by omega) (by omega), show (255 : Int).toNat = 255 from rfl, Go.nat_mask8]
  omega
theorem or_up (x y m : Int) (i : Nat) (hm : m = 2 ^ i) (hi : m ≤ 16777216) (hx : 0 ≤ x ∧ x < m) (hy : 0 ≤ y ∧ y < 256) : Go.bits .or .u32 x (y * m) = x + m * y := by
  have hpos : (0 : Int) < m := by omega
  have h1 : y * m ≤ 255 * m := Int.mul_le_mul_of_nonneg_right (by omega) (Int.le_of_lt hpos)
  have h0 : 0 ≤ y * m := Int.mul_nonneg hy.1 (Int.le_of_lt hpos)
  obtain ⟨a, rfl⟩ := Int.eq_ofNat_of_zero_le hx.1
  obtain ⟨b, rfl⟩ := Int.eq_ofNat_of_zero_le hy.1
  have e : (b : Int) * m = ((b * 2 ^ i : Nat) : Int) := by subst hm; push_cast; rfl
  have hm2 : m = ((2 ^ i : Nat) : Int) := by subst hm; push_cast; rfl
  have hx2 : a < 2 ^ i := by omega
  rw [e, Go.u32_or_nat a (b * 2 ^ i) (by omega) (by omega), Nat.or_comm, Go.nat_join i _ _ (Nat.mul_mod_left b (2 ^ i)) hx2]
  rw [Int.natCast_add, ← e, Int.mul_comm, Int.add_comm]
theorem s4_0 (f : Nat → Int) (h : 0 ≤ f 0 ∧ f 0 < 256) : Go.bits .or .u32 (sum4 f 0) (f 0) = sum4 f 1 := by
  have := or_up 0 (f 0) 1 0 rfl (by omega) (by omega) h
  rw [Int.mul_one] at this
  refine (this.trans ?_)
  simp [sum4]
theorem s4_1 (f : Nat → Int) (h0 : 0 ≤ f 0 ∧ f 0 < 256) (h : 0 ≤ f 1 ∧ f 1 < 256) : Go.bits .or .u32 (sum4 f 1) (f 1 * 256) = sum4 f 2 := by
  have e1 : sum4 f 1 = f 0 := by simp [sum4]
  have := or_up (sum4 f 1) (f 1) 256 8 rfl (by omega) (by omega) h
  refine (this.trans ?_)
  simp [sum4]
theorem s4_2 (f : Nat → Int) (h0 : 0 ≤ f 0 ∧ f 0 < 256) (h1 : 0 ≤ f 1 ∧ f 1 < 256) (h : 0 ≤ f 2 ∧ f 2 < 256) : Go.bits .or .u32 (sum4 f 2) (f 2 * 65536) = sum4 f 3 := by
  have e1 : sum4 f 2 = f 0 + 256 * f 1 := by simp [sum4]
  have := or_up (sum4 f 2) (f 2) 65536 16 rfl (by omega) (by omega) h
  refine (this.trans ?_)
  simp [sum4]
theorem s4_3 (f : Nat → Int) (h0 : 0 ≤ f 0 ∧ f 0 < 256) (h1 : 0 ≤ f 1 ∧ f 1 < 256) (h2 : 0 ≤ f 2 ∧ f 2 < 256) (h : 0 ≤ f 3 ∧ f 3 < 256) : Go.bits .or .u32 (sum4 f 3) (f 3 * 16777216) = sum4 f 4 := by
  have e1 : sum4 f 3 = f 0 + 256 * f 1 + 65536 * f 2 := by simp [sum4]
  have := or_up (sum4 f 3) (f 3) 16777216 24 rfl (by omega) (by omega) h
  refine (this.trans ?_)
  simp [sum4]
theorem mid0 (g : Nat → Int) (h : 0 ≤ midB g 0 ∧ midB g 0 < 256) : Go.bits .or .u32 (midF g 0) (g 2 / 16 % 256) = midF g 1 := s4_0 (midB g) h
theorem mid1 (g : Nat → Int) (h0 : 0 ≤ midB g 0 ∧ midB g 0 < 256) (h : 0 ≤ midB g 1 ∧ midB g 1 < 256) : Go.bits .or .u32 (midF g 1) (g 3 / 16 % 256 * 256) = midF g 2 := s4_1 (midB g) h0 h
theorem mid2 (g : Nat → Int) (h0 : 0 ≤ midB g 0 ∧ midB g 0 < 256) (h1 : 0 ≤ midB g 1 ∧ midB g 1 < 256) (h : 0 ≤ midB g 2 ∧ midB g 2 < 256) : Go.bits .or .u32 (midF g 2) (g 4 / 16 % 256 * 65536) = midF g 3 := s4_2 (midB g) h0 h1 h
theorem mid3 (g : Nat → Int) (h0 : 0 ≤ midB g 0 ∧ midB g 0 < 256) (h1 : 0 ≤ midB g 1 ∧ midB g 1 < 256) (h2 : 0 ≤ midB g 2 ∧ midB g 2 < 256) (h : 0 ≤ midB g 3 ∧ midB g 3 < 256) : Go.bits .or .u32 (midF g 3) (g 5 / 16 % 256 * 16777216) = midF g 4 := s4_3 (midB g) h0 h1 h2 h
theorem bmid_any (g : Nat → Int) (w : World) (hg : ∀ k, k < 8 → 0 ≤ g k ∧ g k < 65536) :
    Calls Tryd.prog 21 #[blkV g] w fun e w' => e = .returned (.int .u32 (midF g 4)) ∧ Below w.heap.size w w' := by
  have hb : ∀ k, k < 4 → 0 ≤ midB g k ∧ midB g k < 256 := fun k hk => by unfold midB; omega
  have a0 := and255h (g 2 / 16) (by have := hg 2 (by omega); omega) (by have := hg 2 (by omega); omega)
  have a1 := and255h (g 3 / 16) (by have := hg 3 (by omega); omega) (by have := hg 3 (by omega); omega)
  have a2 := and255h (g 4 / 16) (by have := hg 4 (by omega); omega) (by have := hg 4 (by omega); omega)
  have a3 := and255h (g 5 / 16) (by have := hg 5 (by omega); omega) (by have := hg 5 (by omega); omega)
  have b0 := hb 0 (by omega)
  have b1 := hb 1 (by omega)
  have b2 := hb 2 (by omega)
  have b3 := hb 3 (by omega)
  clear hb hg
  go_enter Tryd.func21, Tryd.ntmps21
  go_upto_region 1 with (fail)
  obtain ⟨w3, hw3⟩ : ∃ W, W = w.alloc (blkO g 52) := ⟨_, rfl⟩
  have bx : w3.heap[w.heap.size]? = some (blkO g 52) := by rw [hw3]; exact blk_new _ _
  have hB : Below w.heap.size w w3 := by rw [hw3]; exact (by with_reducible repeat (first | apply below_alloc | apply pw_below_drewN | apply below_drew | refine bset ?_ _ _ (by omega) _ | exact Below.refl _ _))
  rw [← hw3]
  clear hw3
  have XO := And.intro (blk_cell bx 2) (And.intro (blk_cell bx 3) (And.intro (blk_cell bx 4) (blk_cell bx 5)))
  simp only [List.getElem?_toArray, List.getElem?_cons_zero, List.getElem?_cons_succ] at XO
  obtain ⟨x2, x3, x4, x5⟩ := XO
  have HB := Aside0.mk hB
  clear bx hB
  go_wp2_with fail
  go_loopw [3, 5] (fun f iv wr => ∃ j : Nat, j ≤ 4 ∧ iv = .int .i64 j ∧ f = .int .u32 (midF g j) ∧ wr = w3) (fun _ iv _ => 4 - (intOf iv).toNat)
  case atStart => exact ⟨0, by omega, rfl, rfl, rfl⟩
  case round =>
    obtain ⟨j, hj, rfl, rfl, rfl⟩ := hrel
    by_cases hlt : j < 4
    · have hjj : j = 0 ∨ j = 1 ∨ j = 2 ∨ j = 3 := by omega
      rcases hjj with rfl | rfl | rfl | rfl
      · go_wp2
        go_roundw
        case rel => exact ⟨1, by omega, by go_num, by rw [mid0 g b0], trivial⟩
        case measure => simp [intOf]
      · go_wp2
        go_roundw
        case rel => exact ⟨2, by omega, by go_num, by rw [mid1 g b0 b1], trivial⟩
        case measure => simp [intOf]
      · go_wp2
        go_roundw
        case rel => exact ⟨3, by omega, by go_num, by rw [mid2 g b0 b1 b2], trivial⟩
        case measure => simp [intOf]
      · go_wp2
        go_roundw
        case rel => exact ⟨4, by omega, by go_num, by rw [mid3 g b0 b1 b2 b3], trivial⟩
        case measure => simp [intOf]
    · obtain rfl : j = 4 := by omega
      go_wp2
      go_ret
      exact ⟨rfl, HB.out⟩
namespace H
attribute [local go_sem] max2_int min2_int max_two min_two max_three min_three max_four min_four
section
open Go
variable {P : Program} {d : Nat} {xs ys : Array Value} {e t c n i : Nat} {is : List Nat} {a b : Value} {r s : Bool} {w : World}
theorem eqi_last (ha : (part e xs (i * c)).run P w = .ok a w) (hb : (part e ys (i * c)).run P w = .ok b w) (he : (Op.equalIn d e a b).run P w = .ok r w) : (Op.eqItems d e c xs ys [i]).run P w = .ok r w := by
  simp only [Op.eqItems, Sem.run_bind, ha, hb, he, Result.andThen_ok]
  cases r <;> simp
theorem eqi_cons (ha : (part e xs (i * c)).run P w = .ok a w) (hb : (part e ys (i * c)).run P w = .ok b w) (he : (Op.equalIn d e a b).run P w = .ok r w) (hr : (Op.eqItems d e c xs ys is).run P w = .ok s w) : (Op.eqItems d e c xs ys (i :: is)).run P w = .ok (r && s) w := by
  rw [Op.eqItems]
  simp only [Sem.run_bind, ha, hb, he, Result.andThen_ok]
  cases r
  · simp
  · simpa using hr
theorem eqR_of {D : TypeDesc} (hu : P.underlying t = some (.array n e)) (hd : P.underlying e = some D) (hc : P.cellsOf e = c) (hl : List.range n = is) (h : (Op.eqItems d e c xs ys is).run P w = .ok r w) : (Op.equalIn (d + 1) t (.agg xs) (.agg ys)).run P w = .ok r w := by
  obtain ⟨j, hj⟩ := info_of_underlying hd
  subst hc hl
  rw [run_equalIn_array w d xs ys hu hj]
  exact h
end
theorem eqA27 (d : Nat) (w : World) (x0 y0 : Int) (x1 y1 : Int) (x2 y2 : Int) (x3 y3 : Int) :
    (Op.equalIn (d + 2) 27 (.agg #[.int .u32 x0, .int .u32 x1, .int .u32 x2, .int .u32 x3]) (.agg #[.int .u32 y0, .int .u32 y1, .int .u32 y2, .int .u32 y3])).run Tryd.prog w = .ok (x0 == y0 && (x1 == y1 && (x2 == y2 && (x3 == y3)))) w := by
  refine eqR_of (c := 1) Tryd.underlying27 Tryd.underlying26 (by kernel_rfl) (by rfl) ?_
  refine eqi_cons (by go_simp; rfl) (by go_simp; rfl) (by go_simp) ?_
  refine eqi_cons (by go_simp; rfl) (by go_simp; rfl) (by go_simp) ?_
  refine eqi_cons (by go_simp; rfl) (by go_simp; rfl) (by go_simp) ?_
  exact eqi_last (by go_simp; rfl) (by go_simp; rfl) (by go_simp)
theorem eqA52 (d : Nat) (w : World) (x0 y0 : Int) (x1 y1 : Int) (x2 y2 : Int) (x3 y3 : Int) (x4 y4 : Int) (x5 y5 : Int) (x6 y6 : Int) (x7 y7 : Int) :
    (Op.equalIn (d + 2) 52 (.agg #[.int .u16 x0, .int .u16 x1, .int .u16 x2, .int .u16 x3, .int .u16 x4, .int .u16 x5, .int .u16 x6, .int .u16 x7]) (.agg #[.int .u16 y0, .int .u16 y1, .int .u16 y2, .int .u16 y3, .int .u16 y4, .int .u16 y5, .int .u16 y6, .int .u16 y7])).run Tryd.prog w = .ok (x0 == y0 && (x1 == y1 && (x2 == y2 && (x3 == y3 && (x4 == y4 && (x5 == y5 && (x6 == y6 && (x7 == y7)))))))) w := by
  refine eqR_of (c := 1) Tryd.underlying52 Tryd.underlying50 (by kernel_rfl) (by rfl) ?_
  refine eqi_cons (by go_simp; rfl) (by go_simp; rfl) (by go_simp) ?_
  refine eqi_cons (by go_simp; rfl) (by go_simp; rfl) (by go_simp) ?_
  refine eqi_cons (by go_simp; rfl) (by go_simp; rfl) (by go_simp) ?_
  refine eqi_cons (by go_simp; rfl) (by go_simp; rfl) (by go_simp) ?_
  refine eqi_cons (by go_simp; rfl) (by go_simp; rfl) (by go_simp) ?_
  refine eqi_cons (by go_simp; rfl) (by go_simp; rfl) (by go_simp) ?_
  refine eqi_cons (by go_simp; rfl) (by go_simp; rfl) (by go_simp) ?_
  exact eqi_last (by go_simp; rfl) (by go_simp; rfl) (by go_simp)
end H
def aheadP (a b h c d k : Int) : Prop := b < d ∨ (b = d ∧ (a < c ∨ (a = c ∧ h < k)))
instance (a b h c d k : Int) : Decidable (aheadP a b h c d k) := by unfold aheadP; infer_instance
def ltC (x y : CL) : Prop := cmpCell x y < 0
instance (x y : CL) : Decidable (ltC x y) := by unfold ltC; infer_instance
/-- rising, each once -/
def Srt (l : List CL) : Prop := l.Pairwise ltC
instance (l : List CL) : Decidable (Srt l) := by unfold Srt; infer_instance
/-- how many are ahead of a cell -/
def lo (l : List CL) (c : CL) : Nat := (l.filter fun x => decide (ltC x c)).length
namespace H
attribute [local go_sem] max2_int min2_int max_two min_two max_three min_three max_four min_four
attribute [local go_sem high] eqA52
def block_Block_Empty.f (a0_0 : Int) (a0_1 : Int) (a0_2 : Int) (a0_3 : Int) (a0_4 : Int) (a0_5 : Int) (a0_6 : Int) (a0_7 : Int) : Option (Bool) := some (a0_0 == 0 && (a0_1 == 0 && (a0_2 == 0 && (a0_3 == 0 && (a0_4 == 0 && (a0_5 == 0 && (a0_6 == 0 && (a0_7 == 0))))))))
theorem block_Block_Empty.calls (a0_0 : Int) (a0_1 : Int) (a0_2 : Int) (a0_3 : Int) (a0_4 : Int) (a0_5 : Int) (a0_6 : Int) (a0_7 : Int) (r : Bool) (w : World) (h : block_Block_Empty.f a0_0 a0_1 a0_2 a0_3 a0_4 a0_5 a0_6 a0_7 = some r) :
  Calls Tryd.prog 26 #[.agg #[.int .u16 a0_0, .int .u16 a0_1, .int .u16 a0_2, .int .u16 a0_3, .int .u16 a0_4, .int .u16 a0_5, .int .u16 a0_6, .int .u16 a0_7]] w fun e w' => e = .returned (.bool r) ∧ Below w.heap.size w w' := by
 have hu52 := Tryd.underlying52
 have HB := Aside0.mk (Below.refl w.heap.size w)
 have H : (some (a0_0 == 0 && (a0_1 == 0 && (a0_2 == 0 && (a0_3 == 0 && (a0_4 == 0 && (a0_5 == 0 && (a0_6 == 0 && (a0_7 == 0))))))))) = some r := h
 clear h
 obtain rfl := Option.some.inj H
 go_enter Tryd.func26, Tryd.ntmps26
 go_wp2_with (first | ((with_reducible refine gate_dst (N := 1) rfl ?_); refine box_event ?hg (N := 1) ?hd (cs := #[.int .u16 a0_0, .int .u16 a0_1, .int .u16 a0_2, .int .u16 a0_3, .int .u16 a0_4, .int .u16 a0_5, .int .u16 a0_6, .int .u16 a0_7]) (t := 52) ?hr ?_; (case hd => rfl); (case hg => rfl); (case hr => first | (go_simp; done) | (go_simp; rfl)); intro gb142 hg w2 hbox hb; have n0_ := Aside0.mk (below_step (by repeat (first | (with_reducible first | exact HB.out | apply ba_ | apply bn_ | apply bd_) | exact HB.out)) hb); have n1_ := Aside0.mk (hbox); have n2_ := Aside0.mk ((by rw [hg]; exact (below_size (by repeat (first | (with_reducible first | exact HB.out | apply ba_ | apply bn_ | apply bd_) | exact HB.out))) : w.heap.size ≤ gb142)); have n3_ := Aside0.mk ((by rw [hg]; exact (below_size (by repeat (first | (with_reducible first | exact HB.out | apply ba_ | apply bn_ | apply bd_) | exact HB.out))) : w.heap.size ≤ gb142)); clear HB; have HB := n0_; have BK142 := n1_; have GW142 := n2_; have GE142 := n3_; clear n0_ n1_ n2_ n3_; clear hb hbox hg; have hcz3_0 : w2.cell? ⟨gb142, 0, none⟩ = some (.int .u16 a0_0) := (blk_cell BK142.out 0).trans rfl; have hcz3_1 : w2.cell? ⟨gb142, 1, none⟩ = some (.int .u16 a0_1) := (blk_cell BK142.out 1).trans rfl; have hcz3_2 : w2.cell? ⟨gb142, 2, none⟩ = some (.int .u16 a0_2) := (blk_cell BK142.out 2).trans rfl; have hcz3_3 : w2.cell? ⟨gb142, 3, none⟩ = some (.int .u16 a0_3) := (blk_cell BK142.out 3).trans rfl; have hcz3_4 : w2.cell? ⟨gb142, 4, none⟩ = some (.int .u16 a0_4) := (blk_cell BK142.out 4).trans rfl; have hcz3_5 : w2.cell? ⟨gb142, 5, none⟩ = some (.int .u16 a0_5) := (blk_cell BK142.out 5).trans rfl; have hcz3_6 : w2.cell? ⟨gb142, 6, none⟩ = some (.int .u16 a0_6) := (blk_cell BK142.out 6).trans rfl; have hcz3_7 : w2.cell? ⟨gb142, 7, none⟩ = some (.int .u16 a0_7) := (blk_cell BK142.out 7).trans rfl; have hfz3_0 := blk_frozen BK142.out 0; have hfz3_1 := blk_frozen BK142.out 1; have hfz3_2 := blk_frozen BK142.out 2; have hfz3_3 := blk_frozen BK142.out 3; have hfz3_4 := blk_frozen BK142.out 4; have hfz3_5 := blk_frozen BK142.out 5; have hfz3_6 := blk_frozen BK142.out 6; have hfz3_7 := blk_frozen BK142.out 7))
 go_ret
 exact ⟨by first | rfl | (simp [errW_none, errW_some] <;> rfl) | (simp [*, errW_none, errW_some] <;> rfl), by repeat (first | (with_reducible first | exact HB.out | apply ba_ | apply bn_ | apply bd_ | refine below_set ?_ GE142.out) | exact HB.out)⟩
end H
def noneQ (l0 l1 l2 l3 : Int) : Bool := decide (l0 = 0 ∧ l1 = 0 ∧ l2 = 0 ∧ l3 = 0)
theorem empty_of (l0 l1 l2 l3 : Int) (h0 : 0 ≤ l0 ∧ l0 < 4294967296) (h1 : 0 ≤ l1 ∧ l1 < 4294967296) (h2 : 0 ≤ l2 ∧ l2 < 4294967296) (h3 : 0 ≤ l3 ∧ l3 < 4294967296) : block_Block_Empty.f (ofG l0 l1 l2 l3 0) (ofG l0 l1 l2 l3 1) (ofG l0 l1 l2 l3 2) (ofG l0 l1 l2 l3 3) (ofG l0 l1 l2 l3 4) (ofG l0 l1 l2 l3 5) (ofG l0 l1 l2 l3 6) (ofG l0 l1 l2 l3 7) = some (noneQ l0 l1 l2 l3) := by
  unfold block_Block_Empty.f noneQ
  congr 1
  rw [Bool.eq_iff_iff]
  simp only [Bool.and_eq_true, beq_iff_eq, decide_eq_true_eq]
  simp [ofG, ofRow]
  omega
end Go.Proofs.YtieekbdododkkaaDoor
