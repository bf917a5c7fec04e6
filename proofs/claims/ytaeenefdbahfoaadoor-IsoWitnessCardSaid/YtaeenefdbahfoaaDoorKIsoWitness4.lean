/- Parts of the proof of IsoWitness, merged out of our texts by wip/tools/pack.py. -/
import Derived.Test.YtaeenefdbahfoaaDoorKIsoWitness1
import Derived.Test.YtaeenefdbahfoaaDoorKIsoWitness3
import Derived.Test.YtaeenefdbahfoaaDoorKIsoWitness2
import Derived.BigRegion
import Derived.Deep.RegionHeld3
namespace Go.Proofs.YtaeenefdbahfoaaDoor
set_option linter.unusedSimpArgs false
set_option linter.unusedVariables false
set_option maxRecDepth 100000
set_option maxHeartbeats 16000000
open Go.RowKit Go.Proofs.YtaeenefdbahfoaaDoorW.PrintWords Go.Proofs.YtaeenefdbahfoaaDoorW.PrintLast Go.Proofs.YtaeenefdbahfoaaDoorW.PrintMore
open H
theorem box3 (w : World) (x y z : Value) (t : Nat) : ∃ w1, w1 = w.alloc (.cells #[x, y, z] t) ∧ w1.cell? ⟨w.heap.size, 0, none⟩ = some x ∧ w1.cell? ⟨w.heap.size, 1, none⟩ = some y ∧ w1.cell? ⟨w.heap.size, 2, none⟩ = some z ∧ w.heap.size < w1.heap.size ∧ Below w.heap.size w w1 :=
 ⟨_, rfl, by simp, by simp, by simp, by simp, below_alloc (Below.refl _ _) _⟩
theorem six_index (k : Nat) (hk : k < 6) : ∃ x y : Int, -1 ≤ x ∧ x ≤ 1 ∧ -1 ≤ y ∧ y ≤ 1 ∧ sixI[2 * k]? = some x ∧ sixI[2 * k + 1]? = some y ∧ ∀ w : World, (Instr.index 69 (.agg #[.int .i64 1, .int .i64 0, .int .i64 0, .int .i64 1, .int .i64 (-1), .int .i64 1, .int .i64 (-1), .int .i64 0, .int .i64 0, .int .i64 (-1), .int .i64 1, .int .i64 (-1)]) (.int .i64 k)).run Tryd.prog w = .ok (.agg #[.int .i64 x, .int .i64 y]) w := by
 have : k = 0 ∨ k = 1 ∨ k = 2 ∨ k = 3 ∨ k = 4 ∨ k = 5 := by omega
 rcases this with rfl | rfl | rfl | rfl | rfl | rfl
 ·exact ⟨1, 0, by decide, by decide, by decide, by decide, rfl, rfl, fun w => by kernel_rfl⟩
 ·exact ⟨0, 1, by decide, by decide, by decide, by decide, rfl, rfl, fun w => by kernel_rfl⟩
 ·exact ⟨-1, 1, by decide, by decide, by decide, by decide, rfl, rfl, fun w => by kernel_rfl⟩
 ·exact ⟨-1, 0, by decide, by decide, by decide, by decide, rfl, rfl, fun w => by kernel_rfl⟩
 ·exact ⟨0, -1, by decide, by decide, by decide, by decide, rfl, rfl, fun w => by kernel_rfl⟩
 ·exact ⟨1, -1, by decide, by decide, by decide, by decide, rfl, rfl, fun w => by kernel_rfl⟩
def sixP : List (Int × Int) := [(1, 0), (0, 1), (-1, 1), (-1, 0), (0, -1), (1, -1)]
def hexL (a b : Int) (k : Nat) : List S65 := (sixP.take k).map fun p => ⟨⟨a + p.1, b + p.2⟩, 0⟩
theorem hexL_succ {a b : Int} (k : Nat) (hk : k < 6) {x y : Int} (hx : sixI[2 * k]? = some x) (hy : sixI[2 * k + 1]? = some y) : hexL a b (k + 1) = hexL a b k ++ [⟨⟨a + x, b + y⟩, 0⟩] := by
 have : k = 0 ∨ k = 1 ∨ k = 2 ∨ k = 3 ∨ k = 4 ∨ k = 5 := by omega
 rcases this with rfl | rfl | rfl | rfl | rfl | rfl <;> (simp [sixI] at hx hy; subst hx; subst hy; simp [hexL, sixP])
theorem near_hex (a b h : Int) (w : World) (hG : Six w) (ha : -4398046511104 ≤ a) (ha' : a ≤ 4398046511104) (hb : -4398046511104 ≤ b) (hb' : b ≤ 4398046511104) :
    Calls Tryd.prog 106 #[.int .i64 1, .agg #[.int .i64 a, .int .i64 b, .int .i64 h]] w fun e w' => ∃ v : Value, e = .returned v ∧ Kd.R k65 65 w' w.heap.size (fun _ => True) v (hexL a b 6) ∧ Below w.heap.size w w' := by
 go_enter Tryd.func106, Tryd.ntmps106
 go_wp2_with fail
 obtain ⟨w1, hw1, c0, c1, c2, hsz, hB1⟩ := box3 w (.int .i64 a) (.int .i64 b) (.int .i64 h) 65
 rw [← hw1]
 have hG1 := hG.below hB1
 clear hw1
 refine (six_any w1 hG1).mono ?_
 rintro e w2 ⟨rfl, hb2⟩
 have HB1 := Aside0.mk hB1
 have HB2 := Aside0.mk hb2
 clear hB1 hb2
 unfold sixVal
 go_wp2
 go_loopw [5, 27] (fun v i wr => ∃ k : Nat, k ≤ 6 ∧ i = .int .i64 k ∧ Kd.R k65 65 wr w1.heap.size (fun _ => True) v (hexL a b k) ∧ Below w1.heap.size w1 wr) (fun _ i _ => 6 - (intOf i).toNat)
 case atStart => exact ⟨0, by omega, rfl, Kd.R_nil _ _ _ _ _, HB2.out⟩
 case round =>
  obtain ⟨k, hk, rfl, hO, hB⟩ := hrel
  have d0 := (hB.cell (p := ⟨w.heap.size, 0, none⟩) hsz).trans c0
  have d1 := (hB.cell (p := ⟨w.heap.size, 1, none⟩) hsz).trans c1
  have hzr : w.heap.size < wr.heap.size := Nat.lt_of_lt_of_le hsz hB.size
  have HO := Aside0.mk hO
  have HB := Aside0.mk hB
  clear hO hB c0 c1 c2 HB2
  by_cases hlt : k < 6
  ·obtain ⟨x, y, x1, x2, y1, y2, ex, ey, hix⟩ := six_index k hlt
   have EX := Aside0.mk ex
   have EY := Aside0.mk ey
   clear ex ey
   have hz1 := HB.out.size
   have hl : (hexL a b k).length ≤ 6 := by simp [hexL, sixP]; omega
   go_wp2_with (at_builtin; refine app1 k65 w1.heap.size (.tmp 30) (.tmp 45) 34 65 (.agg #[.int .i64 0, .int .i64 0, .int .i64 0]) 24 _ (hexL a b k) ⟨⟨a + x, b + y⟩, 0⟩ [.int .i64 (a + x), .int .i64 (b + y), .int .i64 0] _ rfl rfl Tryd.underlying34 info65 rfl (by decide) (by decide) rfl (by simp; done) rfl (k65_mkM _ _ _ _) (Kd.R_alloc HO.out _) (below_alloc2 HB.out (by omega) _) (by simp; omega) (by omega) ?_; intro v1 w3 ho3 hb3; have HO3 := Aside0.mk ho3; have HB3 := Aside0.mk hb3; clear ho3 hb3)
   go_roundw
   case rel => exact ⟨k + 1, by omega, by go_num, by rw [hexL_succ k hlt EX.out EY.out]; exact HO3.out, HB3.out⟩
   case measure => simp [intOf]; omega
  ·obtain rfl : k = 6 := by omega
   go_wp2
   go_ret
   exact ⟨_, rfl, Kd.R_lower HO.out (by omega), (HB1.out.trans (HB.out.mono (by omega)))⟩
def edgeP (d : Int) : List (Int × Int) := [(0, 0), (d, 0), (0, d)]
def edgeL (a b h : Int) (k : Nat) : List S65 := ((edgeP (2 * h - 1)).take k).map fun p => ⟨⟨a + p.1, b + p.2⟩, 1 - h⟩
theorem near_edge (a b h : Int) (w : World) (ha : -4398046511104 ≤ a) (ha' : a ≤ 4398046511104) (hb : -4398046511104 ≤ b) (hb' : b ≤ 4398046511104) (hh0 : 0 ≤ h) (hh1 : h ≤ 1) :
    Calls Tryd.prog 106 #[.int .i64 2, .agg #[.int .i64 a, .int .i64 b, .int .i64 h]] w fun e w' => ∃ v : Value, e = .returned v ∧ Kd.R k65 65 w' w.heap.size (fun _ => True) v (edgeL a b h 3) ∧ Below w.heap.size w w' := by
 go_enter Tryd.func106, Tryd.ntmps106
 go_wp2_with fail
 obtain ⟨w2, hw2, hc, he, hsz, hB2⟩ := two_new w #[.int .i64 a, .int .i64 b, .int .i64 h] #[.int .i64 0, .int .i64 0, .int .i64 (2 * h - 1), .int .i64 0, .int .i64 0, .int .i64 (2 * h - 1)] 65 63
 rw [← hw2]
 clear hw2
 have HB2 := Aside0.mk hB2
 clear hB2
 go_loopw [5, 61] (fun v i wr => ∃ k : Nat, k ≤ 3 ∧ i = .int .i64 k ∧ Kd.R k65 65 wr w2.heap.size (fun _ => True) v (edgeL a b h k) ∧ Below w2.heap.size w2 wr) (fun _ i _ => 3 - (intOf i).toNat)
 case atStart => exact ⟨0, by omega, rfl, Kd.R_nil _ _ _ _ _, Below.refl _ _⟩
 case round =>
  obtain ⟨k, hk, rfl, hO, hB⟩ := hrel
  have d0 := (hB.cell (p := ⟨w.heap.size, 0, none⟩) (by show w.heap.size < _; omega)).trans (hc 0 _ rfl)
  have d1 := (hB.cell (p := ⟨w.heap.size, 1, none⟩) (by show w.heap.size < _; omega)).trans (hc 1 _ rfl)
  have d2 := (hB.cell (p := ⟨w.heap.size, 2, none⟩) (by show w.heap.size < _; omega)).trans (hc 2 _ rfl)
  have hE : ∀ j v, (#[.int .i64 0, .int .i64 0, .int .i64 (2 * h - 1), .int .i64 0, .int .i64 0, .int .i64 (2 * h - 1)] : Array Value)[j]? = some v → wr.cell? ⟨w.heap.size + 1, j, none⟩ = some v := fun j v hv => (hB.cell (p := ⟨w.heap.size + 1, j, none⟩) (by show w.heap.size + 1 < _; omega)).trans (he j v hv)
  have hzr : w.heap.size + 1 < wr.heap.size := Nat.lt_of_lt_of_le hsz hB.size
  have hzr0 : w.heap.size < wr.heap.size := by omega
  have hz1 := hB.size
  have HO := Aside0.mk hO
  have HB := Aside0.mk hB
  clear hO hB hc he
  by_cases hlt : k < 3
  ·have hk3 : k = 0 ∨ k = 1 ∨ k = 2 := by omega
   rcases hk3 with rfl | rfl | rfl
   ·have f0 := hE 0 _ rfl
    have f1 := hE 1 _ rfl
    clear hE
    go_wp2_with (at_builtin; refine app1 k65 w2.heap.size (.tmp 65) (.tmp 83) 34 65 (.agg #[.int .i64 0, .int .i64 0, .int .i64 0]) 24 _ (edgeL a b h 0) ⟨⟨a, b⟩, 1 - h⟩ [.int .i64 a, .int .i64 b, .int .i64 (1 - h)] _ rfl rfl Tryd.underlying34 info65 rfl (by decide) (by decide) rfl (by simp; done) rfl (k65_mkM _ _ _ _) (Kd.R_alloc HO.out _) (below_alloc2 HB.out (by omega) _) (by simp; omega) (by simp [edgeL]) ?_; intro v1 w3 ho3 hb3; have HO3 := Aside0.mk ho3; have HB3 := Aside0.mk hb3; clear ho3 hb3)
    go_roundw
    case rel => exact ⟨1, by omega, rfl, by have := HO3.out; simpa [edgeL, edgeP] using this, HB3.out⟩
    case measure => simp [intOf]
   ·have f0 := hE 2 _ rfl
    have f1 := hE 3 _ rfl
    clear hE
    go_wp2_with (at_builtin; refine app1 k65 w2.heap.size (.tmp 65) (.tmp 83) 34 65 (.agg #[.int .i64 0, .int .i64 0, .int .i64 0]) 24 _ (edgeL a b h 1) ⟨⟨a + (2 * h - 1), b⟩, 1 - h⟩ [.int .i64 (a + (2 * h - 1)), .int .i64 b, .int .i64 (1 - h)] _ rfl rfl Tryd.underlying34 info65 rfl (by decide) (by decide) rfl (by simp; done) rfl (k65_mkM _ _ _ _) (Kd.R_alloc HO.out _) (below_alloc2 HB.out (by omega) _) (by simp; omega) (by simp [edgeL, edgeP]) ?_; intro v1 w3 ho3 hb3; have HO3 := Aside0.mk ho3; have HB3 := Aside0.mk hb3; clear ho3 hb3)
    go_roundw
    case rel => exact ⟨2, by omega, rfl, by have := HO3.out; simpa [edgeL, edgeP] using this, HB3.out⟩
    case measure => simp [intOf]
   ·have f0 := hE 4 _ rfl
    have f1 := hE 5 _ rfl
    clear hE
    go_wp2_with (at_builtin; refine app1 k65 w2.heap.size (.tmp 65) (.tmp 83) 34 65 (.agg #[.int .i64 0, .int .i64 0, .int .i64 0]) 24 _ (edgeL a b h 2) ⟨⟨a, b + (2 * h - 1)⟩, 1 - h⟩ [.int .i64 a, .int .i64 (b + (2 * h - 1)), .int .i64 (1 - h)] _ rfl rfl Tryd.underlying34 info65 rfl (by decide) (by decide) rfl (by simp; done) rfl (k65_mkM _ _ _ _) (Kd.R_alloc HO.out _) (below_alloc2 HB.out (by omega) _) (by simp; omega) (by simp [edgeL, edgeP]) ?_; intro v1 w3 ho3 hb3; have HO3 := Aside0.mk ho3; have HB3 := Aside0.mk hb3; clear ho3 hb3)
    go_roundw
    case rel => exact ⟨3, by omega, rfl, by have := HO3.out; simpa [edgeL, edgeP] using this, HB3.out⟩
    case measure => simp [intOf]
  ·obtain rfl : k = 3 := by omega
   go_wp2
   go_ret
   exact ⟨_, rfl, Kd.R_lower HO.out (by omega), (HB2.out.trans (HB.out.mono (by omega)))⟩
def cornP (a b h : Int) : List (Int × Int) := if h = 0 then [(a, b), (a + 1, b), (a, b + 1)] else [(a + 1, b), (a, b + 1), (a + 1, b + 1)]
def aroundL (a b : Int) : List S65 := [⟨⟨a, b⟩, 0⟩, ⟨⟨a - 1, b⟩, 1⟩, ⟨⟨a - 1, b⟩, 0⟩, ⟨⟨a, b - 1⟩, 1⟩, ⟨⟨a, b - 1⟩, 0⟩, ⟨⟨a - 1, b - 1⟩, 1⟩]
def vertL (a b h : Int) (k : Nat) : List S65 := ((cornP a b h).take k).flatMap fun p => aroundL p.1 p.2
theorem around_f (a b : Int) (ha : -5498046511104 ≤ a) (ha' : a ≤ 5498046511104) (hb : -5498046511104 ≤ b) (hb' : b ≤ 5498046511104) : cell_around.f 4 a b = some (aroundL a b) := by
 have w1 : wrap64 a = a := by unfold wrap64; omega
 have w2 : wrap64 b = b := by unfold wrap64; omega
 have w3 : wrap64 (a + -1) = a - 1 := by unfold wrap64; omega
 have w4 : wrap64 (b + -1) = b - 1 := by unfold wrap64; omega
 have e0 : wrap64 1 = 1 := by unfold wrap64; omega
 have e1 : wrap64 2 = 2 := by unfold wrap64; omega
 have e2 : wrap64 3 = 3 := by unfold wrap64; omega
 simp [cell_around.f, cell_around.l0, rd_T63, aroundL, w1, w2, w3, w4, e0, e1, e2]
theorem around_any (a b : Int) (w : World) (ha : -5498046511104 ≤ a) (ha' : a ≤ 5498046511104) (hb : -5498046511104 ≤ b) (hb' : b ≤ 5498046511104) :
    Calls Tryd.prog 125 #[.agg #[.int .i64 a, .int .i64 b]] w fun e w' => ∃ v0_ : Value, e = .returned (v0_) ∧ Kd.R k65 65 w' w.heap.size (fun _ => True) v0_ (aroundL a b) ∧ Below w.heap.size w w' :=
 cell_around.calls 4 a b _ w (around_f a b ha ha' hb hb')
def cornersV (a b h : Int) : Value := if h = 0 then .agg #[.int .i64 a, .int .i64 b, .int .i64 (a + 1), .int .i64 b, .int .i64 a, .int .i64 (b + 1)] else .agg #[.int .i64 (a + 1), .int .i64 b, .int .i64 a, .int .i64 (b + 1), .int .i64 (a + 1), .int .i64 (b + 1)]
theorem corners_any (a b h : Int) (w : World) (ha : -4398046511104 ≤ a) (ha' : a ≤ 4398046511104) (hb : -4398046511104 ≤ b) (hb' : b ≤ 4398046511104) :
    Calls Tryd.prog 124 #[.agg #[.int .i64 a, .int .i64 b, .int .i64 h]] w fun e w' => e = .returned (cornersV a b h) ∧ Below w.heap.size w w' := by
 by_cases hh : h = 0
 all_goals
  go_enter Tryd.func124, Tryd.ntmps124
  go_wp2
  go_quiet (fail)
  go_wp2
 ·exact bodyPost_ret (v := .agg #[.int .i64 a, .int .i64 b, .int .i64 (a + 1), .int .i64 b, .int .i64 a, .int .i64 (b + 1)]) (by simp [results, Tryd.results124, go_sem]) rfl ⟨by rw [cornersV, if_pos hh], (by with_reducible repeat (first | apply below_alloc | apply pw_below_drewN | apply below_drew | refine bset ?_ _ _ (by omega) _ | exact Below.refl _ _))⟩
 ·exact bodyPost_ret (v := .agg #[.int .i64 (a + 1), .int .i64 b, .int .i64 a, .int .i64 (b + 1), .int .i64 (a + 1), .int .i64 (b + 1)]) (by simp [results, Tryd.results124, go_sem]) rfl ⟨by rw [cornersV, if_neg hh], (by with_reducible repeat (first | apply below_alloc | apply pw_below_drewN | apply below_drew | refine bset ?_ _ _ (by omega) _ | exact Below.refl _ _))⟩
theorem corn_index (a b h : Int) (k : Nat) (hk : k < 3) : ∃ x y : Int, (cornP a b h)[k]? = some (x, y) ∧ a ≤ x ∧ x ≤ a + 1 ∧ b ≤ y ∧ y ≤ b + 1 ∧ ∀ w : World, (Instr.index 201 (cornersV a b h) (.int .i64 k)).run Tryd.prog w = .ok (.agg #[.int .i64 x, .int .i64 y]) w := by
 have hk3 : k = 0 ∨ k = 1 ∨ k = 2 := by omega
 unfold cornP cornersV
 by_cases hh : h = 0
 ·simp only [hh, ↓reduceIte]
  rcases hk3 with rfl | rfl | rfl
  ·exact ⟨a, b, rfl, by omega, by omega, by omega, by omega, fun w => by kernel_rfl⟩
  ·exact ⟨a + 1, b, rfl, by omega, by omega, by omega, by omega, fun w => by kernel_rfl⟩
  ·exact ⟨a, b + 1, rfl, by omega, by omega, by omega, by omega, fun w => by kernel_rfl⟩
 ·simp only [hh, ↓reduceIte]
  rcases hk3 with rfl | rfl | rfl
  ·exact ⟨a + 1, b, rfl, by omega, by omega, by omega, by omega, fun w => by kernel_rfl⟩
  ·exact ⟨a, b + 1, rfl, by omega, by omega, by omega, by omega, fun w => by kernel_rfl⟩
  ·exact ⟨a + 1, b + 1, rfl, by omega, by omega, by omega, by omega, fun w => by kernel_rfl⟩
theorem vertL_succ {a b h : Int} (k : Nat) {x y : Int} (hx : (cornP a b h)[k]? = some (x, y)) : vertL a b h (k + 1) = vertL a b h k ++ aroundL x y := by
 unfold vertL
 rw [List.take_add_one, hx]
 simp
theorem vertL_len (a b h : Int) (k : Nat) : (vertL a b h k).length ≤ 18 := by
 have h3 : (cornP a b h).length = 3 := by unfold cornP; split <;> rfl
 have : ∀ l : List (Int × Int), (l.flatMap fun p => aroundL p.1 p.2).length = 6 * l.length := by
  intro l
  induction l with
  | nil => rfl
  | cons p l ih => rw [List.flatMap_cons, List.length_append, ih, List.length_cons]; simp [aroundL]; omega
 unfold vertL
 rw [this, List.length_take]
 omega
theorem near_vert (l a b h : Int) (w : World) (hl1 : ¬ l = 1) (hl2 : ¬ l = 2) (ha : -4398046511104 ≤ a) (ha' : a ≤ 4398046511104) (hb : -4398046511104 ≤ b) (hb' : b ≤ 4398046511104) :
    Calls Tryd.prog 106 #[.int .i64 l, .agg #[.int .i64 a, .int .i64 b, .int .i64 h]] w fun e w' => ∃ v : Value, e = .returned v ∧ Kd.R k65 65 w' w.heap.size (fun _ => True) v (vertL a b h 3) ∧ Below w.heap.size w w' := by
 go_enter Tryd.func106, Tryd.ntmps106
 go_wp2_with fail
 obtain ⟨w1, hw1, hc, hsz, hB1⟩ := one_new w #[.int .i64 a, .int .i64 b, .int .i64 h] 65
 rw [← hw1]
 clear hw1
 have HB1 := Aside0.mk hB1
 clear hB1
 refine (corners_any a b h w1 ha ha' hb hb').mono ?_
 rintro e w2 ⟨rfl, hb2⟩
 have HB2 := Aside0.mk hb2
 clear hb2 hc
 have HIX := Aside0.mk (corn_index a b h)
 generalize cornersV a b h = cv at HIX ⊢
 go_wp2
 go_loopw [5, 16] (fun v i wr => ∃ k : Nat, k ≤ 3 ∧ i = .int .i64 k ∧ Kd.R k65 65 wr w1.heap.size (fun _ => True) v (vertL a b h k) ∧ Below w1.heap.size w1 wr) (fun _ i _ => 3 - (intOf i).toNat)
 case atStart => exact ⟨0, by omega, rfl, Kd.R_nil _ _ _ _ _, HB2.out⟩
 case round =>
  obtain ⟨k, hk, rfl, hO, hB⟩ := hrel
  have HO := Aside0.mk hO
  have HB := Aside0.mk hB
  clear hO hB HB2
  by_cases hlt : k < 3
  ·obtain ⟨x, y, ex, x1, x2, y1, y2, hix⟩ := HIX.out k hlt
   have EX := Aside0.mk ex
   clear ex HIX
   have hz1 := HB.out.size
   have hl := vertL_len a b h k
   have hla : (aroundL x y).length = 6 := rfl
   go_wp2_with (first
    | (go_at_call 125; refine (around_any x y _ (by omega) (by omega) (by omega) (by omega)).mono ?_; rintro e w3 ⟨v3, rfl, ho3, hb3⟩; obtain ⟨A3, c3, rfl, hl3, hc3⟩ := Kd.R_reads ho3; have HC3 := Aside0.mk hc3; have HB3 := Aside0.mk hb3; clear ho3 hc3 hb3 hix)
    | (at_builtin; refine appN k65 w1.heap.size (.tmp 19) (.tmp 21) 34 65 (.agg #[.int .i64 0, .int .i64 0, .int .i64 0]) 24 _ (vertL a b h k) (aroundL x y) A3 c3 rfl rfl Tryd.underlying34 info65 rfl (by decide) (by decide) rfl rfl (fun x cs h => by obtain rfl := k65_open h; exact k65_mkM _ _ _ _) (Kd.R_below (Kd.R_alloc HO.out _) HB3.out) HC3.out ((below_alloc2 HB.out (by omega) _).trans (HB3.out.mono (by simp; omega))) (Nat.le_trans (by simp; omega) HB3.out.size) (by omega) ?_; intro v1 w4 ho4 hb4; have HO4 := Aside0.mk ho4; have HB4 := Aside0.mk hb4; clear ho4 hb4))
   go_roundw
   case rel => exact ⟨k + 1, by omega, by go_num, by rw [vertL_succ k EX.out]; exact HO4.out, HB4.out⟩
   case measure => simp [intOf]; omega
  ·obtain rfl : k = 3 := by omega
   go_wp2
   go_ret
   exact ⟨_, rfl, Kd.R_lower HO.out (by omega), (HB1.out.trans (HB.out.mono (by omega)))⟩
section
open Go.Shelf Go.Lib Go.Sort
def nearL (l a b h : Int) : List S65 := if l = 1 then hexL a b 6 else if l = 2 then edgeL a b h 3 else vertL a b h 3
theorem near_any (l a b h : Int) (w : World) (hG : Six w) (hg : goodP a b) (hh0 : 0 ≤ h) (hh1 : h ≤ 1) :
    Calls Tryd.prog 106 #[.int .i64 l, .agg #[.int .i64 a, .int .i64 b, .int .i64 h]] w fun e w' => ∃ v : Value, e = .returned v ∧ Kd.R k65 65 w' w.heap.size (fun _ => True) v (nearL l a b h) ∧ Below w.heap.size w w' := by
 obtain ⟨g1, g2, g3, g4⟩ := hg
 unfold nearL
 by_cases h1 : l = 1
 ·subst h1
  exact near_hex a b h w hG (by omega) (by omega) (by omega) (by omega)
 ·rw [if_neg h1]
  by_cases h2 : l = 2
  ·subst h2
   exact near_edge a b h w (by omega) (by omega) (by omega) (by omega) hh0 hh1
  ·rw [if_neg h2]
   exact near_vert l a b h w h1 h2 (by omega) (by omega) (by omega) (by omega)
theorem near_ne (l a b h : Int) : nearL l a b h ≠ [] := by
 unfold nearL
 split
 ·simp [hexL, sixP]
 ·split
  ·simp [edgeL, edgeP]
  ·unfold vertL cornP
   split <;> simp [aroundL]
theorem near_len (l a b h : Int) : (nearL l a b h).length ≤ 18 := by
 unfold nearL
 split
 ·simp [hexL, sixP]
 ·split
  ·simp [edgeL, edgeP]
  ·exact vertL_len a b h 3
theorem near_row (l a b h : Int) (w : World) (hG : Six w) (hg : goodP a b) (hh0 : 0 ≤ h) (hh1 : h ≤ 1) :
    Calls Tryd.prog 106 #[.int .i64 l, .agg #[.int .i64 a, .int .i64 b, .int .i64 h]] w fun e w' => ∃ g cap : Nat, e = .returned (.slice (some ⟨g, 0, none⟩) (nearL l a b h).length cap) ∧ (nearL l a b h).length ≤ cap ∧ w.heap.size ≤ g ∧ Row3 w' g cap (nearL l a b h).toArray ∧ Below w.heap.size w w' := by
 refine (near_any l a b h w hG hg hh0 hh1).mono ?_
 rintro e w' ⟨v, rfl, hR, hB⟩
 rcases row_of_R hR with ⟨_, h0⟩ | ⟨g, cap, rfl, hb, _, hrow⟩
 ·exact absurd h0 (near_ne l a b h)
 ·exact ⟨g, cap, rfl, by simpa using hrow.le, hb, hrow, hB⟩
def farL (l a b h : Int) : List S65 := (nearL l a b h).filter fun x => !decide (x = ⟨⟨a, b⟩, h⟩)
def besideL (l a b h : Int) : List S65 := compactUpTo (sortCells (farL l a b h)).toArray (sortCells (farL l a b h)).toArray.size
def allGood (xs : List S65) : Prop := ∀ x ∈ xs, goodP x.f0.f0 x.f0.f1
def besideV (w' : World) (base : Nat) (e : Ending) (xs : List S65) : Prop := (allGood xs ∧ ∃ v, e = .returned (.tuple #[v, .nilIface]) ∧ Kd.R k65 65 w' base (fun _ => True) v xs) ∨ (¬ allGood xs ∧ e = .returned (.tuple #[.slice none 0 0, errW (some 6)]))
attribute [local go_sem high] eqCells
theorem beside_ok (l a b h : Int) (w : World) (hG : Six w) (hc : checkR l a b h = none) (hg : goodP a b) (hh0 : 0 ≤ h) (hh1 : h ≤ 1) (hne : farL l a b h ≠ []) :
    Calls Tryd.prog 89 #[.int .i64 l, .agg #[.int .i64 a, .int .i64 b, .int .i64 h]] w fun e w' => besideV w' w.heap.size e (besideL l a b h) ∧ Below w.heap.size w w' := by
 have hck := fun W => check_any l a b h W
 simp only [hc, errW_none] at hck
 obtain ⟨c, hcdef⟩ : ∃ c : S65, c = ⟨⟨a, b⟩, h⟩ := ⟨_, rfl⟩
 have hca : a = c.f0.f0 := by rw [hcdef]
 have hcb : b = c.f0.f1 := by rw [hcdef]
 have hch : h = c.f1 := by rw [hcdef]
 have hnr := fun W hW => near_row l a b h W hW hg hh0 hh1
 obtain ⟨L, hL⟩ : ∃ L, L = nearL l a b h := ⟨_, rfl⟩
 have hLn : L ≠ [] := by rw [hL]; exact near_ne l a b h
 have hLl : L.length ≤ 18 := by rw [hL]; exact near_len l a b h
 have hF : farL l a b h = L.filter fun x => !decide (x = c) := by rw [hL, hcdef]; rfl
 unfold besideL
 rw [hF] at hne ⊢
 obtain ⟨F, hFd⟩ : ∃ F, F = L.filter fun x => !decide (x = c) := ⟨_, rfl⟩
 rw [← hFd] at hne ⊢
 obtain ⟨X, hXd⟩ : ∃ X, X = compactUpTo (sortCells F).toArray (sortCells F).toArray.size := ⟨_, rfl⟩
 rw [← hXd]
 have HFD := Aside0.mk hFd
 have HXD := Aside0.mk hXd
 clear hFd hXd
 rw [← hL] at hnr
 rw [hca, hcb, hch] at hck hnr ⊢
 clear hca hcb hch hc hg hh0 hh1 hF hL hcdef
 go_enter Tryd.func89, Tryd.ntmps89
 go_wp2_with fail
 obtain ⟨w1, hw1, hcc, hsz, hB1⟩ := one_new w #[.int .i64 c.f0.f0, .int .i64 c.f0.f1, .int .i64 c.f1] 65
 rw [← hw1]
 clear hw1
 have hG1 := hG.below hB1
 have HB1 := Aside0.mk hB1
 clear hB1
 have d0 : w1.cell? ⟨w.heap.size, 0, none⟩ = some (.int .i64 c.f0.f0) := hcc 0 _ rfl
 have d1 : w1.cell? ⟨w.heap.size, 1, none⟩ = some (.int .i64 c.f0.f1) := hcc 1 _ rfl
 have d2 : w1.cell? ⟨w.heap.size, 2, none⟩ = some (.int .i64 c.f1) := hcc 2 _ rfl
 clear hcc
 have G1 := Aside0.mk hG1
 clear hG1 hG
 go_wp2_with (first
  | (go_at_call 81; refine (hck _).mono ?_; rintro e w2 ⟨rfl, hb2⟩
     have G2 := Aside0.mk (G1.out.below hb2)
     have d0 := pw_cell_below hb2 d0
     have d1 := pw_cell_below hb2 d1
     have d2 := pw_cell_below hb2 d2
     have HB2 := Aside0.mk hb2
     clear hb2)
  | (go_at_call 106; refine (hnr _ G2.out).mono ?_; rintro e w3 ⟨g3, c3, rfl, hlc3, hg3, hrow3, hb3⟩
     have d0 := pw_cell_below hb3 d0
     have d1 := pw_cell_below hb3 d1
     have d2 := pw_cell_below hb3 d2
     have HB3 := Aside0.mk (HB2.out.trans (hb3.mono HB2.out.size))
     have HR3 := Aside0.mk hrow3
     clear hb3 hrow3))
 have hz3 := HB3.out.size
 have hg3' := HR3.out.lt
 have C0 := Aside0.mk (And.intro d0 (And.intro d1 d2))
 clear d0 d1 d2
 go_loopw [7, 22] (fun v i wr => ∃ k : Nat, k ≤ L.length ∧ i = .int .i64 k ∧ Kd.R k65 65 wr w3.heap.size (fun _ => True) v ((L.take k).filter fun x => !decide (x = c)) ∧ Below w3.heap.size w3 wr) (fun _ i _ => L.length - (intOf i).toNat)
 case atStart => exact ⟨0, by omega, rfl, by simp; exact Kd.R_nil _ _ _ _ _, Below.refl _ _⟩
 case round =>
  obtain ⟨k, hk, rfl, hO, hB⟩ := hrel
  have HO := Aside0.mk hO
  have HB := Aside0.mk hB
  have d0 := pw_cell_below hB C0.out.1
  have d1 := pw_cell_below hB C0.out.2.1
  have d2 := pw_cell_below hB C0.out.2.2
  have hzr := hB.size
  have hzz : w.heap.size < wr.heap.size := Nat.lt_of_lt_of_le (Nat.lt_of_lt_of_le hsz hz3) hzr
  have hg3z : g3 < wr.heap.size := Nat.lt_of_lt_of_le hg3' hzr
  by_cases hlt : k < L.length
  ·obtain ⟨a0, a1, a2⟩ := (HR3.out.below hB).cell k (by simpa using hlt)
   generalize hx : L.toArray[k]! = x at a0 a1 a2
   clear hO hB
   have HX := Aside0.mk hx
   clear hx
   have hlf : ((L.take k).filter fun x => !decide (x = c)).length ≤ 18 := Nat.le_trans (List.length_filter_le _ _) (by simp; omega)
   have htk : L.take (k + 1) = L.take k ++ [x] := by
    rw [List.take_add_one, List.getElem?_eq_getElem hlt]
    have : L.toArray[k]! = L[k] := by simp [hlt]
    rw [← HX.out, this]
    rfl
   have HTK := Aside0.mk htk
   clear htk
   by_cases hxc : x = c
   ·go_wp2_with fail
    go_roundw
    case rel => exact ⟨k + 1, by omega, by go_num, by rw [HTK.out, List.filter_append]; simpa [hxc] using Kd.R_alloc HO.out _, below_alloc2 HB.out (by omega) _⟩
    case measure => simp [intOf]; omega
   ·go_wp2_with (at_builtin; refine app1 k65 w3.heap.size (.tmp 29) (.tmp 31) 34 65 (.agg #[.int .i64 0, .int .i64 0, .int .i64 0]) 24 _ ((L.take k).filter fun x => !decide (x = c)) x [.int .i64 x.f0.f0, .int .i64 x.f0.f1, .int .i64 x.f1] _ rfl rfl Tryd.underlying34 info65 rfl (by decide) (by decide) rfl (by simp; done) rfl (k65_mkM _ _ _ _) (Kd.R_alloc HO.out _) (below_alloc2 HB.out (by omega) _) (by simp; omega) (by omega) ?_; intro v1 w4 ho4 hb4; have HO4 := Aside0.mk ho4; have HB4 := Aside0.mk hb4; clear ho4 hb4)
    go_roundw
    case rel => exact ⟨k + 1, by omega, by go_num, by rw [HTK.out, List.filter_append]; simpa [hxc] using HO4.out, HB4.out⟩
    case measure => simp [intOf]; omega
  ·obtain rfl : k = L.length := by omega
   have hO2 := hO
   rw [List.take_length, ← HFD.out] at hO2
   rcases row_of_R hO2 with ⟨_, h0⟩ | ⟨g5, c5, rfl, hb5, _, hrow5⟩
   ·exact absurd h0 hne
   have hlen5 : F.length ≤ 18 := by rw [HFD.out]; exact Nat.le_trans (List.length_filter_le _ _) hLl
   clear hO hO2 HO hck hnr
   have R5 := Aside0.mk hrow5
   have hsl : (sortCells F).length = F.length := List.length_mergeSort _
   have hsort := fun W hW => sort_any W g5 c5 F hW (by omega)
   have hcomp : ∀ W, Row3 W g5 c5 (sortCells F).toArray → Calls Tryd.prog 76 #[.slice (some ⟨g5, 0, none⟩) F.length c5] W fun e w' => e = .returned (.slice (some ⟨g5, 0, none⟩) X.length c5) ∧ Row3 w' g5 c5 X.toArray ∧ W.grownBy w' (some g5) := fun W hW => by
    have := compact_any W g5 c5 _ hW (by simp [hsl]; omega)
    rw [← HXD.out] at this
    rwa [show (sortCells F).toArray.size = F.length by simp [hsl]] at this
   clear hrow5
   have hXl : X.length ≤ 18 := by
    rw [HXD.out]
    unfold compactUpTo
    rw [List.length_map]
    exact Nat.le_trans (List.length_filter_le _ _) (by simp [hsl]; omega)
   go_wp2_with (first
    | (go_at_call 74; refine (hsort _ R5.out).mono ?_; rintro e w5 ⟨rfl, hr5, hgr5⟩; have R6 := Aside0.mk hr5; have GR5 := Aside0.mk hgr5; clear hr5 hgr5)
    | (go_at_call 76; refine (hcomp _ R6.out).mono ?_; rintro e w6 ⟨rfl, hr6, hgr6⟩; have R7 := Aside0.mk hr6; have GR6 := Aside0.mk hgr6; clear hr6 hgr6))
   have hB36 : Below w3.heap.size w3 w6 := pw_below_grown (pw_below_grown HB.out _ (by omega) GR5.out (fun k hk => by cases hk; exact hb5)) _ (Nat.le_trans (by omega) GR5.out.size) GR6.out (fun k hk => by cases hk; exact hb5)
   have HB36 := Aside0.mk hB36
   have hz36 := hB36.size
   clear hB36 hsort hcomp
   have hzw : w.heap.size ≤ w3.heap.size := by omega
   have hzb : w.heap.size ≤ g5 := by omega
   go_loopw [40] (fun i wq => ∃ k : Nat, k ≤ X.length ∧ i = .int .i64 k ∧ (∀ j, j < k → goodP X.toArray[j]!.f0.f0 X.toArray[j]!.f0.f1) ∧ Below w6.heap.size w6 wq) (fun i _ => X.length - (intOf i).toNat)
   case atStart => exact ⟨0, by omega, rfl, fun j hj => by omega, Below.refl _ _⟩
   case round =>
    obtain ⟨k, hk, rfl, hgood, hB⟩ := hrel
    have GD := Aside0.mk hgood
    have HBQ := Aside0.mk hB
    have hzq := hB.size
    have hg5q : g5 < wr.heap.size := (R7.out.below hB).lt
    by_cases hlt : k < X.length
    ·obtain ⟨a0, a1, a2⟩ := (R7.out.below hB).cell k (by simpa using hlt)
     generalize hx : X.toArray[k]! = x at a0 a1 a2
     have HX := Aside0.mk hx
     have hga := fun W => good_any x.f0.f0 x.f0.f1 W
     clear hx hgood hB
     by_cases hgx : goodP x.f0.f0 x.f0.f1
     ·rw [decide_eq_true hgx] at hga
      go_wp2_with (go_at_call 92; refine (hga _).mono ?_; rintro e w7 ⟨rfl, hb7⟩; have HB7 := Aside0.mk hb7; clear hb7)
      go_roundw
      case rel =>
       refine ⟨k + 1, by omega, by go_num, fun j hj => ?_, (below_alloc2 HBQ.out (by omega) _).trans (HB7.out.mono (by simp; omega))⟩
       rcases Nat.lt_or_ge j k with hjk | hjk
       ·exact GD.out j hjk
       ·obtain rfl : j = k := by omega
        rw [HX.out]
        exact hgx
      case measure => simp [intOf]; omega
     ·rw [decide_eq_false hgx] at hga
      go_wp2_with (go_at_call 92; refine (hga _).mono ?_; rintro e w7 ⟨rfl, hb7⟩; have HB7 := Aside0.mk hb7; clear hb7)
      refine bodyPost_ret (v := .tuple #[.slice none 0 0, errW (some 6)]) (by simp [results, Tryd.results89, go_sem, errW_some]) rfl ⟨.inr ⟨fun hall => hgx ?_, rfl⟩, ?_⟩
      ·have : x ∈ X := by
        have hxe : X.toArray[k]! = X[k] := by simp [hlt]
        rw [← HX.out, hxe]
        exact List.getElem_mem _
       exact hall x this
      ·exact HB1.out.trans ((HB3.out.trans ((HB36.out.trans (((below_alloc2 HBQ.out (by omega) _).trans (HB7.out.mono (by simp; omega))).mono (by omega))).mono (by omega))).mono (by omega))
    ·obtain rfl : k = X.length := by omega
     clear hB hgood
     go_wp2
     refine bodyPost_ret (v := .tuple #[.slice (some ⟨g5, 0, none⟩) X.length c5, .nilIface]) (by simp [results, Tryd.results89, go_sem]) rfl ⟨.inl ⟨fun x hx => ?_, _, rfl, R_of_row (R7.out.below HBQ.out) hzb trivial⟩, ?_⟩
     ·obtain ⟨j, hj, rfl⟩ := List.getElem_of_mem hx
      have := GD.out j hj
      have hxe : X.toArray[j]! = X[j] := by simp [hj]
      rwa [hxe] at this
     ·exact HB1.out.trans ((HB3.out.trans ((HB36.out.trans (HBQ.out.mono (by omega))).mono (by omega))).mono (by omega))
end
open Go.Shelf Go.Lib Go.Sort
theorem sh_inj (a b : Int) {x y : CL} (h : sh a b x = sh a b y) : x = y := by
 obtain ⟨⟨p, q⟩, r⟩ := x
 obtain ⟨⟨p', q'⟩, r'⟩ := y
 simp only [sh, S65.mk.injEq, S63.mk.injEq] at h ⊢
 omega
theorem sh_lt (a b : Int) (x y : CL) : ltOf cmpCell (sh a b x) (sh a b y) = ltOf cmpCell x y := by
 rw [lt_cell, lt_cell]
 simp only [sh]
 congr 1
 rw [eq_iff_iff]
 omega
theorem near_sh (l a b h : Int) (h0 : h = 0 ∨ h = 1) : nearL l a b h = (nearL l 0 0 h).map (sh a b) := by
 unfold nearL
 split
 ·simp [hexL, sixP, sh]
 ·split
  ·rcases h0 with rfl | rfl <;> simp [edgeL, edgeP, sh]
  ·rcases h0 with rfl | rfl
   ·simp [vertL, cornP, aroundL, sh]; omega
   ·simp [vertL, cornP, aroundL, sh]; omega
theorem far_sh (l a b h : Int) (h0 : h = 0 ∨ h = 1) : farL l a b h = (farL l 0 0 h).map (sh a b) := by
 unfold farL
 rw [near_sh l a b h h0, List.filter_map]
 congr 2
 funext x
 obtain ⟨⟨p, q⟩, r⟩ := x
 rw [Bool.eq_iff_iff]
 simp [sh, S65.mk.injEq, S63.mk.injEq]
 omega
theorem sort_sh (a b : Int) (xs : List CL) : sortCells (xs.map (sh a b)) = (sortCells xs).map (sh a b) := by
 unfold sortCells
 rw [List.map_mergeSort]
 intro x _ y _
 rw [sh_lt]
theorem keeps_map (f : CL → CL) (hf : ∀ x y, f x = f y → x = y) (xs : List CL) (j : Nat) (hj : j < xs.length) : keeps (xs.map f).toArray j = keeps xs.toArray j := by
 unfold keeps
 have e : ∀ i, i < xs.length → (xs.map f).toArray[i]! = f xs.toArray[i]! := fun i hi => by simp [hi]
 rw [e j hj, e (j - 1) (by omega)]
 rw [Bool.eq_iff_iff]
 simp only [decide_eq_true_eq]
 constructor
 ·rintro (h | h)
  ·exact .inl h
  ·exact .inr fun h' => h (by rw [h'])
 ·rintro (h | h)
  ·exact .inl h
  ·exact .inr fun h' => h (hf _ _ h')
theorem compact_map (f : CL → CL) (hf : ∀ x y, f x = f y → x = y) (xs : List CL) : compactUpTo (xs.map f).toArray (xs.map f).toArray.size = (compactUpTo xs.toArray xs.toArray.size).map f := by
 unfold compactUpTo
 simp only [List.size_toArray, List.length_map, List.map_map]
 rw [List.filter_congr (q := keeps xs.toArray) (fun j hj => keeps_map f hf xs j (by simpa using hj))]
 apply List.map_congr_left
 intro j hj
 have : j < xs.length := by simpa using (List.mem_filter.1 hj).1
 simp [this]
def offs (l h : Int) : List CL :=
 if l = 1 then [mk 0 (-1) 0, mk 1 (-1) 0, mk (-1) 0 0, mk 1 0 0, mk (-1) 1 0, mk 0 1 0]
 else if l = 2 then (if h = 0 then [mk 0 (-1) 1, mk (-1) 0 1, mk 0 0 1] else [mk 0 0 0, mk 1 0 0, mk 0 1 0])
 else if h = 0 then [mk (-1) (-1) 1, mk 0 (-1) 0, mk 0 (-1) 1, mk 1 (-1) 0, mk 1 (-1) 1, mk (-1) 0 0, mk (-1) 0 1, mk 0 0 1, mk 1 0 0, mk (-1) 1 0, mk (-1) 1 1, mk 0 1 0]
 else [mk 0 (-1) 1, mk 1 (-1) 0, mk 1 (-1) 1, mk (-1) 0 1, mk 0 0 0, mk 1 0 0, mk 1 0 1, mk (-1) 1 0, mk (-1) 1 1, mk 0 1 0, mk 0 1 1, mk 1 1 0]
theorem sort_is (xs ys : List CL) (hp : xs.Perm ys) (hs : ys.Pairwise fun x y => (!(ltOf cmpCell) y x) = true) : sortCells xs = ys := by
 have hle : ∀ x y : CL, (!(ltOf cmpCell) y x) = true → (!(ltOf cmpCell) x y) = true → x = y := fun x y h1 h2 => tot_cell x y (by simpa using h2) (by simpa using h1)
 refine List.Perm.eq_of_pairwise (le := fun x y => (!(ltOf cmpCell) y x) = true) (fun a b _ _ => hle a b) (List.pairwise_mergeSort ?_ ?_ xs) hs ((List.mergeSort_perm xs _).trans hp)
 ·intro x y z h1 h2
  simp only [lt_cell, Bool.not_eq_true', decide_eq_false_iff_not] at *
  omega
 ·intro x y
  simp only [lt_cell, Bool.or_eq_true, Bool.not_eq_true', decide_eq_false_iff_not]
  omega
instance (xs : List CL) : Decidable (xs.Pairwise fun x y => (!(ltOf cmpCell) y x) = true) := inferInstance
theorem base_is (l h : Int) (ys : List CL) (hp : (farL l 0 0 h).Perm ys) (hs : ys.Pairwise fun x y => (!(ltOf cmpCell) y x) = true) : besideL l 0 0 h = compactUpTo ys.toArray ys.toArray.size := by
 unfold besideL
 rw [sort_is _ ys hp hs]
def dups (h : Int) : List CL := if h = 0 then [mk (-1) (-1) 1, mk 0 (-1) 0, mk 0 (-1) 1, mk 0 (-1) 1, mk 1 (-1) 0, mk 1 (-1) 1, mk (-1) 0 0, mk (-1) 0 1, mk (-1) 0 1, mk 0 0 1, mk 0 0 1, mk 1 0 0, mk (-1) 1 0, mk (-1) 1 1, mk 0 1 0]
 else [mk 0 (-1) 1, mk 1 (-1) 0, mk 1 (-1) 1, mk (-1) 0 1, mk 0 0 0, mk 0 0 0, mk 1 0 0, mk 1 0 0, mk 1 0 1, mk (-1) 1 0, mk (-1) 1 1, mk 0 1 0, mk 0 1 0, mk 0 1 1, mk 1 1 0]
theorem beside_base (l h : Int) (hl : 1 ≤ l) (hl' : l ≤ 3) (h0 : h = 0 ∨ h = 1) (h1 : l = 1 → h = 0) : besideL l 0 0 h = offs l h := by
 have : l = 1 ∨ l = 2 ∨ l = 3 := by omega
 rcases this with rfl | rfl | rfl
 ·obtain rfl := h1 rfl
  rw [base_is 1 0 (offs 1 0) (by decide) (by decide)]
  decide
 ·rcases h0 with rfl | rfl
  ·rw [base_is 2 0 (offs 2 0) (by decide) (by decide)]; decide
  ·rw [base_is 2 1 (offs 2 1) (by decide) (by decide)]; decide
 ·rcases h0 with rfl | rfl
  ·rw [base_is 3 0 (dups 0) (by decide) (by decide)]; decide
  ·rw [base_is 3 1 (dups 1) (by decide) (by decide)]; decide
theorem beside_eq (l a b h : Int) (hl : 1 ≤ l) (hl' : l ≤ 3) (h0 : h = 0 ∨ h = 1) (h1 : l = 1 → h = 0) : besideL l a b h = (offs l h).map (sh a b) := by
 rw [← beside_base l h hl hl' h0 h1]
 unfold besideL
 rw [far_sh l a b h h0, sort_sh, compact_map _ (fun x y => sh_inj a b)]
theorem far_ne (l a b h : Int) (hl : 1 ≤ l) (hl' : l ≤ 3) (h0 : h = 0 ∨ h = 1) (h1 : l = 1 → h = 0) : farL l a b h ≠ [] := by
 intro he
 have h2 := beside_eq l a b h hl hl' h0 h1
 unfold besideL at h2
 rw [he] at h2
 have h3 : (offs l h).map (sh a b) = [] := by rw [← h2]; simp [sortCells, compactUpTo]
 unfold offs at h3
 split at h3
 ·simp at h3
 ·split at h3 <;> split at h3 <;> simp at h3
theorem beside_any (l a b h : Int) (w : World) (hG : Six w) (hl : 1 ≤ l) (hl' : l ≤ 3) (h0 : h = 0 ∨ h = 1) (h1 : l = 1 → h = 0) (hg : goodP a b) :
    Calls Tryd.prog 89 #[.int .i64 l, .agg #[.int .i64 a, .int .i64 b, .int .i64 h]] w fun e w' => besideV w' w.heap.size e ((offs l h).map (sh a b)) ∧ Below w.heap.size w w' := by
 have := beside_ok l a b h w hG ?_ hg (by omega) (by omega) (far_ne l a b h hl hl' h0 h1)
 ·rwa [beside_eq l a b h hl hl' h0 h1] at this
 ·unfold checkR
  rw [if_pos ⟨hl, hl'⟩, if_neg ?_, if_pos hg]
  rcases h0 with rfl | rfl
  ·split <;> omega
  ·by_cases e : l = 1
   ·have := h1 e; omega
   ·rw [if_neg e]; omega
theorem beside_refused (l a b h c : Int) (w : World) (hc : checkR l a b h = some c) :
    Calls Tryd.prog 89 #[.int .i64 l, .agg #[.int .i64 a, .int .i64 b, .int .i64 h]] w fun e w' => e = .returned (.tuple #[.slice none 0 0, errW (some c)]) ∧ Below w.heap.size w w' := by
 have hck := fun W => check_any l a b h W
 simp only [hc, errW_some] at hck ⊢
 go_enter Tryd.func89, Tryd.ntmps89
 go_wp2_with fail
 obtain ⟨w1, hw1, hcc, hsz, hB1⟩ := one_new w #[.int .i64 a, .int .i64 b, .int .i64 h] 65
 rw [← hw1]
 clear hw1
 have d0 : w1.cell? ⟨w.heap.size, 0, none⟩ = some (.int .i64 a) := hcc 0 _ rfl
 have d1 : w1.cell? ⟨w.heap.size, 1, none⟩ = some (.int .i64 b) := hcc 1 _ rfl
 have d2 : w1.cell? ⟨w.heap.size, 2, none⟩ = some (.int .i64 h) := hcc 2 _ rfl
 have HB1 := Aside0.mk hB1
 clear hcc hB1
 go_wp2_with (go_at_call 81; refine (hck _).mono ?_; rintro e w2 ⟨rfl, hb2⟩; have HB2 := Aside0.mk (HB1.out.trans (hb2.mono HB1.out.size)); clear hb2)
 go_ret2
 exact ⟨rfl, HB2.out⟩
def XBeside.f (l a b h : Int) : Option (List S65 × Option Int) :=
 some (match checkR l a b h with
  | some c => ([], some c)
  | none => if ((offs l h).map (sh a b)).all (fun x => decide (goodP x.f0.f0 x.f0.f1)) = true then ((offs l h).map (sh a b), none) else ([], some 6))
theorem XBeside.calls (a0 : Int) (a1_0 : Int) (a1_1 : Int) (a1_2 : Int) (r1 : List S65) (r2 : Option Int) (w : World) (hGSix : Six w) (h : XBeside.f a0 a1_0 a1_1 a1_2 = some (r1, r2)) :
    Calls Tryd.prog 89 #[.int .i64 a0, .agg #[.int .i64 a1_0, .int .i64 a1_1, .int .i64 a1_2]] w fun e w' => ∃ v0_ : Value, e = .returned (.tuple #[v0_, errW r2]) ∧ Kd.R k65 65 w' w.heap.size (fun _ => True) v0_ r1 ∧ Below w.heap.size w w' := by
 have h' := Option.some.inj h
 clear h
 cases hc : checkR a0 a1_0 a1_1 a1_2 with
 | some c =>
  rw [hc] at h'
  obtain ⟨rfl, rfl⟩ := Prod.mk.inj h'
  exact (beside_refused _ _ _ _ c w hc).mono fun e w' ⟨he, hb⟩ => ⟨_, he, Kd.R_nil _ _ _ _ _, hb⟩
 | none =>
  rw [hc] at h'
  obtain ⟨q1, q2, q3, q4, q5⟩ := checkR_ok hc
  refine (beside_any a0 a1_0 a1_1 a1_2 w hGSix q1 q2 q4 q5 q3).mono ?_
  rintro e w' ⟨hv, hb⟩
  by_cases hall : ((offs a0 a1_2).map (sh a1_0 a1_1)).all (fun x => decide (goodP x.f0.f0 x.f0.f1)) = true
  ·simp only [hall, ↓reduceIte] at h'
   obtain ⟨rfl, rfl⟩ := Prod.mk.inj h'
   rcases hv with ⟨_, v, rfl, hR⟩ | ⟨hbad, _⟩
   ·exact ⟨v, rfl, hR, hb⟩
   ·exact absurd (fun x hx => of_decide_eq_true (List.all_eq_true.1 hall x hx)) hbad
  ·simp only [hall] at h'
   obtain ⟨rfl, rfl⟩ := Prod.mk.inj h'
   rcases hv with ⟨hgood, _⟩ | ⟨_, rfl⟩
   ·exact absurd (List.all_eq_true.2 fun x hx => decide_eq_true (hgood x hx)) hall
   ·exact ⟨_, rfl, Kd.R_nil _ _ _ _ _, hb⟩
def tri0 : List S65 := (offs 2 0).map (sh 0 0)
theorem tri0_f : XBeside.f 2 0 0 0 = some (tri0, none) := by decide +kernel
theorem tri0_len : tri0.length = 3 := by decide +kernel
abbrev TB7 (b1 : Int) : Obj := .cells #[.int .i64 2, .int .u64 2, .int .u64 b1, .int .u64 0, .int .u64 0] 29 (0, 0)
abbrev S5 (g : Nat) (b1 : Int) (W : World) : Prop := W.cell? ⟨g, 0, none⟩ = some (.int .i64 2) ∧ W.cell? ⟨g, 1, none⟩ = some (.int .u64 2) ∧ W.cell? ⟨g, 2, none⟩ = some (.int .u64 b1) ∧ W.cell? ⟨g, 3, none⟩ = some (.int .u64 0) ∧ W.cell? ⟨g, 4, none⟩ = some (.int .u64 0)
theorem S5.below {g : Nat} {b1 : Int} {W W1 : World} (h : S5 g b1 W) (hb : Below W.heap.size W W1) : S5 g b1 W1 := ⟨pw_cell_below hb h.1, pw_cell_below hb h.2.1, pw_cell_below hb h.2.2.1, pw_cell_below hb h.2.2.2.1, pw_cell_below hb h.2.2.2.2⟩
abbrev S6 (g : Nat) (b1 : Int) (B0 W : World) : Prop := W.cell? ⟨g, 0, none⟩ = some (.int .i64 2) ∧ W.cell? ⟨g, 1, none⟩ = some (.int .u64 2) ∧ W.cell? ⟨g, 2, none⟩ = some (.int .u64 b1) ∧ W.cell? ⟨g, 3, none⟩ = some (.int .u64 0) ∧ W.cell? ⟨g, 4, none⟩ = some (.int .u64 0) ∧ Below B0.heap.size B0 W
theorem S6.next {g : Nat} {b1 : Int} {B0 W W1 : World} (h : S6 g b1 B0 W) (hb : Below W.heap.size W W1) : S6 g b1 B0 W1 := ⟨pw_cell_below hb h.1, pw_cell_below hb h.2.1, pw_cell_below hb h.2.2.1, pw_cell_below hb h.2.2.2.1, pw_cell_below hb h.2.2.2.2.1, h.2.2.2.2.2.trans (hb.mono h.2.2.2.2.2.size)⟩
abbrev WB : Obj := .cells #[.slice none 0 0, .int .i64 0] 37 (0, 0)
abbrev FB : Obj := .cells #[.bool false, .bool true] 4 (0, 0)
theorem tri_same (w : World) (hG : Six w) : Calls Tryd.prog 55 #[.agg #[.int .i64 2, .int .u64 2, .int .u64 2, .int .u64 0, .int .u64 0]] w fun e w' => (∃ (A : Option Addr) (n c : Nat) (o : Int), e = .returned (.tuple #[.agg #[.slice A n c, .int .i64 o], .bool false])) ∧ Below w.heap.size w w' := by
 have hbs := fun W hW => XBeside.calls 2 0 0 0 tri0 none W hW tri0_f
 simp only [errW_none] at hbs
 have HBS := Aside0.mk hbs
 have HG := Aside0.mk hG
 clear hbs hG
 go_enter Tryd.func55, Tryd.ntmps55
 go_wp2_with fail
 obtain ⟨w2, hw2⟩ : ∃ W, W = (w.alloc (.cells #[.int .i64 2, .int .u64 2, .int .u64 2, .int .u64 0, .int .u64 0] 29)).alloc (.cells #[.slice none 0 0, .int .i64 0] 37) := ⟨_, rfl⟩
 have kT : w2.heap[w.heap.size]? = some (TB7 2) := by rw [hw2]; exact blk_alloc (blk_new _ _) _
 have kW : w2.heap[w.heap.size + 1]? = some WB := by
  have := blk_new (w.alloc (.cells #[.int .i64 2, .int .u64 2, .int .u64 2, .int .u64 0, .int .u64 0] 29)) WB
  rw [World.size_alloc] at this
  rw [hw2]; exact this
 have hB2 : Below w.heap.size w w2 := by rw [hw2]; exact below_alloc (below_alloc (Below.refl _ _) _) _
 rw [← hw2]
 have HB2 := Aside0.mk hB2
 clear hw2 hB2
 refine (HBS.out w2 (HG.out.below HB2.out)).mono ?_
 rintro e w3 ⟨v, rfl, hR, hb3⟩
 obtain ⟨A, c, rfl, hlc, hC⟩ := Kd.R_reads hR
 rw [tri0_len]
 rw [tri0_len] at hlc
 have kT := blk_below kT hb3
 have kW := blk_below kW hb3
 have HB3 := Aside0.mk (HB2.out.trans (hb3.mono HB2.out.size))
 have HC := Aside0.mk hC
 have HLC := Aside0.mk hlc
 have hw4 : IntKind.i64.wrap (3 + 1) = 4 := by decide
 clear hR hC hlc hb3 HBS
 go_wp2_with fail
 go_loopw [20] (fun iv wr => ∃ n : Nat, n ≤ 4 ∧ iv = .int .i64 n ∧ wr.heap[w.heap.size]? = some (TB7 2) ∧ wr.heap[w.heap.size + 1]? = some WB ∧ Below w3.heap.size w3 wr) (fun iv _ => 4 - (intOf iv).toNat)
 case atStart => exact ⟨0, by omega, rfl, kT, kW, Below.refl _ _⟩
 case round =>
  clear kT kW
  obtain ⟨n, hn, rfl, kT, kW, hB⟩ := hrel
  have KT := Aside0.mk kT
  have KW := Aside0.mk kW
  have HB := Aside0.mk hB
  have hz3 := hB.size
  have lT := blk_lt kT
  have lW := blk_lt kW
  clear kT kW hB
  have hnn : n = 0 ∨ n = 1 ∨ n = 2 ∨ n = 3 ∨ n = 4 := by omega
  rcases hnn with rfl | rfl | rfl | rfl | rfl
  ·go_upto_region 6 with (fail)
   obtain ⟨w5, hw5⟩ : ∃ W, W = wr.alloc (.cells #[.bool false, .bool true] 4) := ⟨_, rfl⟩
   have kB : w5.heap[wr.heap.size]? = some FB := by rw [hw5]; exact blk_new _ _
   have hB5 : Below wr.heap.size wr w5 := by rw [hw5]; exact below_alloc (Below.refl _ _) _
   rw [← hw5]
   obtain ⟨gB, hgB⟩ : ∃ g, g = wr.heap.size := ⟨_, rfl⟩
   rw [← hgB] at kB ⊢
   have kT := blk_below KT.out hB5
   have kW := blk_below KW.out hB5
   have HB5 := Aside0.mk (HB.out.trans (hB5.mono hz3))
   clear hw5 hB5 hgB KT KW HB
   try rw [show ((0 : Nat) : Int) = 0 from rfl]
   go_loopw [25] (fun iv wr => ∃ j : Nat, j ≤ 2 ∧ iv = .int .i64 j ∧ wr.heap[w.heap.size]? = some (TB7 2) ∧ wr.heap[w.heap.size + 1]? = some WB ∧ wr.heap[gB]? = some FB ∧ Below w3.heap.size w3 wr) (fun iv _ => 2 - (intOf iv).toNat)
   case atStart => exact ⟨0, by omega, rfl, kT, kW, kB, HB5.out⟩
   case round =>
    clear kT kW kB HB5
    obtain ⟨j, hj, rfl, kT, kW, kB, hB⟩ := hrel
    have KT := Aside0.mk kT
    have KW := Aside0.mk kW
    have KB := Aside0.mk kB
    have HB := Aside0.mk hB
    have hz3 := hB.size
    have b0 := blk_cell kB 0
    have b1 := blk_cell kB 1
    simp only [List.getElem?_toArray, List.getElem?_cons_zero, List.getElem?_cons_succ] at b0 b1
    have lT := blk_lt kT
    have lW := blk_lt kW
    have lB := blk_lt kB
    have hS : S6 w.heap.size 2 wr.drew wr.drew := ⟨blk_cell kT 0, blk_cell kT 1, blk_cell kT 2, blk_cell kT 3, blk_cell kT 4, Below.refl _ _⟩
    clear kT kW kB hB
    have hjj : j = 0 ∨ j = 1 ∨ j = 2 := by omega
    rcases hjj with rfl | rfl | rfl
    ·obtain ⟨r0, r1, f0, f1, hr⟩ : ∃ r0 r1, XNext.f 2 2 2 0 0 0 false 0 = some r0 ∧ XNext.f 2 2 2 0 0 1 false 0 = some r1 ∧ (r0 == r1) = true := ⟨_, _, rfl, rfl, by decide +kernel⟩
     have c0 := fun W => XNext.calls 2 2 2 0 0 0 false 0 r0 W f0
     have c1 := fun W => XNext.calls 2 2 2 0 0 1 false 0 r1 W f1
     clear f0 f1
     go_upto_region 8 with (fail)
     go_region_held3 (fun W => W.cell? ⟨w.heap.size, 0, none⟩ = some (.int .i64 2) ∧ W.cell? ⟨w.heap.size, 1, none⟩ = some (.int .u64 2) ∧ W.cell? ⟨w.heap.size, 2, none⟩ = some (.int .u64 2) ∧ W.cell? ⟨w.heap.size, 3, none⟩ = some (.int .u64 0) ∧ W.cell? ⟨w.heap.size, 4, none⟩ = some (.int .u64 0) ∧ Below wr.drew.heap.size wr.drew W)
      (assumption)
      (first | (go_at_call 58; (first | (with_reducible refine (c0 _).mono ?_) | (with_reducible refine (c1 _).mono ?_)); rintro e wN ⟨rfl, hbN⟩; have hSN := S6.next (by assumption : S6 w.heap.size 2 wr.drew _) hbN; clear hbN))
     all_goals (
      have hF := hSN.2.2.2.2.2
      have hBw := (below_drew HB.out).trans (hF.mono (by show w3.heap.size ≤ wr.heap.size; omega))
      have FF := Aside0.mk (And.intro (blk_below (w := wr.drew) KT.out hF) (And.intro (blk_below (w := wr.drew) KW.out hF) (And.intro (blk_below (w := wr.drew) KB.out hF) hBw)))
      clear hF hSN hBw hS
      go_wp2
      go_roundw
      case rel => exact ⟨1, by omega, by first | rfl | go_num, FF.out.1, FF.out.2.1, FF.out.2.2.1, FF.out.2.2.2⟩
      case measure => simp [intOf])
    ·obtain ⟨r0, r1, f0, f1, hr⟩ : ∃ r0 r1, XNext.f 2 2 2 0 0 0 true 0 = some r0 ∧ XNext.f 2 2 2 0 0 1 true 0 = some r1 ∧ (r0 == r1) = true := ⟨_, _, rfl, rfl, by decide +kernel⟩
     have c0 := fun W => XNext.calls 2 2 2 0 0 0 true 0 r0 W f0
     have c1 := fun W => XNext.calls 2 2 2 0 0 1 true 0 r1 W f1
     clear f0 f1
     go_upto_region 8 with (fail)
     go_region_held3 (fun W => W.cell? ⟨w.heap.size, 0, none⟩ = some (.int .i64 2) ∧ W.cell? ⟨w.heap.size, 1, none⟩ = some (.int .u64 2) ∧ W.cell? ⟨w.heap.size, 2, none⟩ = some (.int .u64 2) ∧ W.cell? ⟨w.heap.size, 3, none⟩ = some (.int .u64 0) ∧ W.cell? ⟨w.heap.size, 4, none⟩ = some (.int .u64 0) ∧ Below wr.drew.heap.size wr.drew W)
      (assumption)
      (first | (go_at_call 58; (first | (with_reducible refine (c0 _).mono ?_) | (with_reducible refine (c1 _).mono ?_)); rintro e wN ⟨rfl, hbN⟩; have hSN := S6.next (by assumption : S6 w.heap.size 2 wr.drew _) hbN; clear hbN))
     all_goals (
      have hF := hSN.2.2.2.2.2
      have hBw := (below_drew HB.out).trans (hF.mono (by show w3.heap.size ≤ wr.heap.size; omega))
      have FF := Aside0.mk (And.intro (blk_below (w := wr.drew) KT.out hF) (And.intro (blk_below (w := wr.drew) KW.out hF) (And.intro (blk_below (w := wr.drew) KB.out hF) hBw)))
      clear hF hSN hBw hS
      go_wp2
      go_roundw
      case rel => exact ⟨2, by omega, by first | rfl | go_num, FF.out.1, FF.out.2.1, FF.out.2.2.1, FF.out.2.2.2⟩
      case measure => simp [intOf])
    ·go_wp2
     go_roundw
     case rel => exact ⟨0 + 1, by omega, by first | rfl | go_num, KT.out, KW.out, HB.out⟩
     case measure => first | (simp [intOf]; done) | (simp [intOf]; omega)
  ·go_upto_region 6 with (fail)
   obtain ⟨w5, hw5⟩ : ∃ W, W = wr.alloc (.cells #[.bool false, .bool true] 4) := ⟨_, rfl⟩
   have kB : w5.heap[wr.heap.size]? = some FB := by rw [hw5]; exact blk_new _ _
   have hB5 : Below wr.heap.size wr w5 := by rw [hw5]; exact below_alloc (Below.refl _ _) _
   rw [← hw5]
   obtain ⟨gB, hgB⟩ : ∃ g, g = wr.heap.size := ⟨_, rfl⟩
   rw [← hgB] at kB ⊢
   have kT := blk_below KT.out hB5
   have kW := blk_below KW.out hB5
   have HB5 := Aside0.mk (HB.out.trans (hB5.mono hz3))
   clear hw5 hB5 hgB KT KW HB
   try rw [show ((1 : Nat) : Int) = 1 from rfl]
   go_loopw [25] (fun iv wr => ∃ j : Nat, j ≤ 2 ∧ iv = .int .i64 j ∧ wr.heap[w.heap.size]? = some (TB7 2) ∧ wr.heap[w.heap.size + 1]? = some WB ∧ wr.heap[gB]? = some FB ∧ Below w3.heap.size w3 wr) (fun iv _ => 2 - (intOf iv).toNat)
   case atStart => exact ⟨0, by omega, rfl, kT, kW, kB, HB5.out⟩
   case round =>
    clear kT kW kB HB5
    obtain ⟨j, hj, rfl, kT, kW, kB, hB⟩ := hrel
    have KT := Aside0.mk kT
    have KW := Aside0.mk kW
    have KB := Aside0.mk kB
    have HB := Aside0.mk hB
    have hz3 := hB.size
    have b0 := blk_cell kB 0
    have b1 := blk_cell kB 1
    simp only [List.getElem?_toArray, List.getElem?_cons_zero, List.getElem?_cons_succ] at b0 b1
    have lT := blk_lt kT
    have lW := blk_lt kW
    have lB := blk_lt kB
    have hS : S6 w.heap.size 2 wr.drew wr.drew := ⟨blk_cell kT 0, blk_cell kT 1, blk_cell kT 2, blk_cell kT 3, blk_cell kT 4, Below.refl _ _⟩
    clear kT kW kB hB
    have hjj : j = 0 ∨ j = 1 ∨ j = 2 := by omega
    rcases hjj with rfl | rfl | rfl
    ·obtain ⟨r0, r1, f0, f1, hr⟩ : ∃ r0 r1, XNext.f 2 2 2 0 0 0 false 1 = some r0 ∧ XNext.f 2 2 2 0 0 1 false 1 = some r1 ∧ (r0 == r1) = true := ⟨_, _, rfl, rfl, by decide +kernel⟩
     have c0 := fun W => XNext.calls 2 2 2 0 0 0 false 1 r0 W f0
     have c1 := fun W => XNext.calls 2 2 2 0 0 1 false 1 r1 W f1
     clear f0 f1
     go_upto_region 8 with (fail)
     go_region_held3 (fun W => W.cell? ⟨w.heap.size, 0, none⟩ = some (.int .i64 2) ∧ W.cell? ⟨w.heap.size, 1, none⟩ = some (.int .u64 2) ∧ W.cell? ⟨w.heap.size, 2, none⟩ = some (.int .u64 2) ∧ W.cell? ⟨w.heap.size, 3, none⟩ = some (.int .u64 0) ∧ W.cell? ⟨w.heap.size, 4, none⟩ = some (.int .u64 0) ∧ Below wr.drew.heap.size wr.drew W)
      (assumption)
      (first | (go_at_call 58; (first | (with_reducible refine (c0 _).mono ?_) | (with_reducible refine (c1 _).mono ?_)); rintro e wN ⟨rfl, hbN⟩; have hSN := S6.next (by assumption : S6 w.heap.size 2 wr.drew _) hbN; clear hbN))
     all_goals (
      have hF := hSN.2.2.2.2.2
      have hBw := (below_drew HB.out).trans (hF.mono (by show w3.heap.size ≤ wr.heap.size; omega))
      have FF := Aside0.mk (And.intro (blk_below (w := wr.drew) KT.out hF) (And.intro (blk_below (w := wr.drew) KW.out hF) (And.intro (blk_below (w := wr.drew) KB.out hF) hBw)))
      clear hF hSN hBw hS
      go_wp2
      go_roundw
      case rel => exact ⟨1, by omega, by first | rfl | go_num, FF.out.1, FF.out.2.1, FF.out.2.2.1, FF.out.2.2.2⟩
      case measure => simp [intOf])
    ·obtain ⟨r0, r1, f0, f1, hr⟩ : ∃ r0 r1, XNext.f 2 2 2 0 0 0 true 1 = some r0 ∧ XNext.f 2 2 2 0 0 1 true 1 = some r1 ∧ (r0 == r1) = true := ⟨_, _, rfl, rfl, by decide +kernel⟩
     have c0 := fun W => XNext.calls 2 2 2 0 0 0 true 1 r0 W f0
     have c1 := fun W => XNext.calls 2 2 2 0 0 1 true 1 r1 W f1
     clear f0 f1
     go_upto_region 8 with (fail)
     go_region_held3 (fun W => W.cell? ⟨w.heap.size, 0, none⟩ = some (.int .i64 2) ∧ W.cell? ⟨w.heap.size, 1, none⟩ = some (.int .u64 2) ∧ W.cell? ⟨w.heap.size, 2, none⟩ = some (.int .u64 2) ∧ W.cell? ⟨w.heap.size, 3, none⟩ = some (.int .u64 0) ∧ W.cell? ⟨w.heap.size, 4, none⟩ = some (.int .u64 0) ∧ Below wr.drew.heap.size wr.drew W)
      (assumption)
      (first | (go_at_call 58; (first | (with_reducible refine (c0 _).mono ?_) | (with_reducible refine (c1 _).mono ?_)); rintro e wN ⟨rfl, hbN⟩; have hSN := S6.next (by assumption : S6 w.heap.size 2 wr.drew _) hbN; clear hbN))
     all_goals (
      have hF := hSN.2.2.2.2.2
      have hBw := (below_drew HB.out).trans (hF.mono (by show w3.heap.size ≤ wr.heap.size; omega))
      have FF := Aside0.mk (And.intro (blk_below (w := wr.drew) KT.out hF) (And.intro (blk_below (w := wr.drew) KW.out hF) (And.intro (blk_below (w := wr.drew) KB.out hF) hBw)))
      clear hF hSN hBw hS
      go_wp2
      go_roundw
      case rel => exact ⟨2, by omega, by first | rfl | go_num, FF.out.1, FF.out.2.1, FF.out.2.2.1, FF.out.2.2.2⟩
      case measure => simp [intOf])
    ·go_wp2
     go_roundw
     case rel => exact ⟨1 + 1, by omega, by first | rfl | go_num, KT.out, KW.out, HB.out⟩
     case measure => first | (simp [intOf]; done) | (simp [intOf]; omega)
  ·go_upto_region 6 with (fail)
   obtain ⟨w5, hw5⟩ : ∃ W, W = wr.alloc (.cells #[.bool false, .bool true] 4) := ⟨_, rfl⟩
   have kB : w5.heap[wr.heap.size]? = some FB := by rw [hw5]; exact blk_new _ _
   have hB5 : Below wr.heap.size wr w5 := by rw [hw5]; exact below_alloc (Below.refl _ _) _
   rw [← hw5]
   obtain ⟨gB, hgB⟩ : ∃ g, g = wr.heap.size := ⟨_, rfl⟩
   rw [← hgB] at kB ⊢
   have kT := blk_below KT.out hB5
   have kW := blk_below KW.out hB5
   have HB5 := Aside0.mk (HB.out.trans (hB5.mono hz3))
   clear hw5 hB5 hgB KT KW HB
   try rw [show ((2 : Nat) : Int) = 2 from rfl]
   go_loopw [25] (fun iv wr => ∃ j : Nat, j ≤ 2 ∧ iv = .int .i64 j ∧ wr.heap[w.heap.size]? = some (TB7 2) ∧ wr.heap[w.heap.size + 1]? = some WB ∧ wr.heap[gB]? = some FB ∧ Below w3.heap.size w3 wr) (fun iv _ => 2 - (intOf iv).toNat)
   case atStart => exact ⟨0, by omega, rfl, kT, kW, kB, HB5.out⟩
   case round =>
    clear kT kW kB HB5
    obtain ⟨j, hj, rfl, kT, kW, kB, hB⟩ := hrel
    have KT := Aside0.mk kT
    have KW := Aside0.mk kW
    have KB := Aside0.mk kB
    have HB := Aside0.mk hB
    have hz3 := hB.size
    have b0 := blk_cell kB 0
    have b1 := blk_cell kB 1
    simp only [List.getElem?_toArray, List.getElem?_cons_zero, List.getElem?_cons_succ] at b0 b1
    have lT := blk_lt kT
    have lW := blk_lt kW
    have lB := blk_lt kB
    have hS : S6 w.heap.size 2 wr.drew wr.drew := ⟨blk_cell kT 0, blk_cell kT 1, blk_cell kT 2, blk_cell kT 3, blk_cell kT 4, Below.refl _ _⟩
    clear kT kW kB hB
    have hjj : j = 0 ∨ j = 1 ∨ j = 2 := by omega
    rcases hjj with rfl | rfl | rfl
    ·obtain ⟨r0, r1, f0, f1, hr⟩ : ∃ r0 r1, XNext.f 2 2 2 0 0 0 false 2 = some r0 ∧ XNext.f 2 2 2 0 0 1 false 2 = some r1 ∧ (r0 == r1) = true := ⟨_, _, rfl, rfl, by decide +kernel⟩
     have c0 := fun W => XNext.calls 2 2 2 0 0 0 false 2 r0 W f0
     have c1 := fun W => XNext.calls 2 2 2 0 0 1 false 2 r1 W f1
     clear f0 f1
     go_upto_region 8 with (fail)
     go_region_held3 (fun W => W.cell? ⟨w.heap.size, 0, none⟩ = some (.int .i64 2) ∧ W.cell? ⟨w.heap.size, 1, none⟩ = some (.int .u64 2) ∧ W.cell? ⟨w.heap.size, 2, none⟩ = some (.int .u64 2) ∧ W.cell? ⟨w.heap.size, 3, none⟩ = some (.int .u64 0) ∧ W.cell? ⟨w.heap.size, 4, none⟩ = some (.int .u64 0) ∧ Below wr.drew.heap.size wr.drew W)
      (assumption)
      (first | (go_at_call 58; (first | (with_reducible refine (c0 _).mono ?_) | (with_reducible refine (c1 _).mono ?_)); rintro e wN ⟨rfl, hbN⟩; have hSN := S6.next (by assumption : S6 w.heap.size 2 wr.drew _) hbN; clear hbN))
     all_goals (
      have hF := hSN.2.2.2.2.2
      have hBw := (below_drew HB.out).trans (hF.mono (by show w3.heap.size ≤ wr.heap.size; omega))
      have FF := Aside0.mk (And.intro (blk_below (w := wr.drew) KT.out hF) (And.intro (blk_below (w := wr.drew) KW.out hF) (And.intro (blk_below (w := wr.drew) KB.out hF) hBw)))
      clear hF hSN hBw hS
      go_wp2
      go_roundw
      case rel => exact ⟨1, by omega, by first | rfl | go_num, FF.out.1, FF.out.2.1, FF.out.2.2.1, FF.out.2.2.2⟩
      case measure => simp [intOf])
    ·obtain ⟨r0, r1, f0, f1, hr⟩ : ∃ r0 r1, XNext.f 2 2 2 0 0 0 true 2 = some r0 ∧ XNext.f 2 2 2 0 0 1 true 2 = some r1 ∧ (r0 == r1) = true := ⟨_, _, rfl, rfl, by decide +kernel⟩
     have c0 := fun W => XNext.calls 2 2 2 0 0 0 true 2 r0 W f0
     have c1 := fun W => XNext.calls 2 2 2 0 0 1 true 2 r1 W f1
     clear f0 f1
     go_upto_region 8 with (fail)
     go_region_held3 (fun W => W.cell? ⟨w.heap.size, 0, none⟩ = some (.int .i64 2) ∧ W.cell? ⟨w.heap.size, 1, none⟩ = some (.int .u64 2) ∧ W.cell? ⟨w.heap.size, 2, none⟩ = some (.int .u64 2) ∧ W.cell? ⟨w.heap.size, 3, none⟩ = some (.int .u64 0) ∧ W.cell? ⟨w.heap.size, 4, none⟩ = some (.int .u64 0) ∧ Below wr.drew.heap.size wr.drew W)
      (assumption)
      (first | (go_at_call 58; (first | (with_reducible refine (c0 _).mono ?_) | (with_reducible refine (c1 _).mono ?_)); rintro e wN ⟨rfl, hbN⟩; have hSN := S6.next (by assumption : S6 w.heap.size 2 wr.drew _) hbN; clear hbN))
     all_goals (
      have hF := hSN.2.2.2.2.2
      have hBw := (below_drew HB.out).trans (hF.mono (by show w3.heap.size ≤ wr.heap.size; omega))
      have FF := Aside0.mk (And.intro (blk_below (w := wr.drew) KT.out hF) (And.intro (blk_below (w := wr.drew) KW.out hF) (And.intro (blk_below (w := wr.drew) KB.out hF) hBw)))
      clear hF hSN hBw hS
      go_wp2
      go_roundw
      case rel => exact ⟨2, by omega, by first | rfl | go_num, FF.out.1, FF.out.2.1, FF.out.2.2.1, FF.out.2.2.2⟩
      case measure => simp [intOf])
    ·go_wp2
     go_roundw
     case rel => exact ⟨2 + 1, by omega, by first | rfl | go_num, KT.out, KW.out, HB.out⟩
     case measure => first | (simp [intOf]; done) | (simp [intOf]; omega)
  ·go_upto_region 6 with (fail)
   obtain ⟨w5, hw5⟩ : ∃ W, W = wr.alloc (.cells #[.bool false, .bool true] 4) := ⟨_, rfl⟩
   have kB : w5.heap[wr.heap.size]? = some FB := by rw [hw5]; exact blk_new _ _
   have hB5 : Below wr.heap.size wr w5 := by rw [hw5]; exact below_alloc (Below.refl _ _) _
   rw [← hw5]
   obtain ⟨gB, hgB⟩ : ∃ g, g = wr.heap.size := ⟨_, rfl⟩
   rw [← hgB] at kB ⊢
   have kT := blk_below KT.out hB5
   have kW := blk_below KW.out hB5
   have HB5 := Aside0.mk (HB.out.trans (hB5.mono hz3))
   clear hw5 hB5 hgB KT KW HB
   try rw [show ((3 : Nat) : Int) = 3 from rfl]
   go_loopw [25] (fun iv wr => ∃ j : Nat, j ≤ 2 ∧ iv = .int .i64 j ∧ wr.heap[w.heap.size]? = some (TB7 2) ∧ wr.heap[w.heap.size + 1]? = some WB ∧ wr.heap[gB]? = some FB ∧ Below w3.heap.size w3 wr) (fun iv _ => 2 - (intOf iv).toNat)
   case atStart => exact ⟨0, by omega, rfl, kT, kW, kB, HB5.out⟩
   case round =>
    clear kT kW kB HB5
    obtain ⟨j, hj, rfl, kT, kW, kB, hB⟩ := hrel
    have KT := Aside0.mk kT
    have KW := Aside0.mk kW
    have KB := Aside0.mk kB
    have HB := Aside0.mk hB
    have hz3 := hB.size
    have b0 := blk_cell kB 0
    have b1 := blk_cell kB 1
    simp only [List.getElem?_toArray, List.getElem?_cons_zero, List.getElem?_cons_succ] at b0 b1
    have lT := blk_lt kT
    have lW := blk_lt kW
    have lB := blk_lt kB
    have hS : S6 w.heap.size 2 wr.drew wr.drew := ⟨blk_cell kT 0, blk_cell kT 1, blk_cell kT 2, blk_cell kT 3, blk_cell kT 4, Below.refl _ _⟩
    clear kT kW kB hB
    have hjj : j = 0 ∨ j = 1 ∨ j = 2 := by omega
    rcases hjj with rfl | rfl | rfl
    ·obtain ⟨r0, r1, f0, f1, hr⟩ : ∃ r0 r1, XNext.f 2 2 2 0 0 0 false 3 = some r0 ∧ XNext.f 2 2 2 0 0 1 false 3 = some r1 ∧ (r0 == r1) = true := ⟨_, _, rfl, rfl, by decide +kernel⟩
     have c0 := fun W => XNext.calls 2 2 2 0 0 0 false 3 r0 W f0
     have c1 := fun W => XNext.calls 2 2 2 0 0 1 false 3 r1 W f1
     clear f0 f1
     go_upto_region 8 with (fail)
     go_region_held3 (fun W => W.cell? ⟨w.heap.size, 0, none⟩ = some (.int .i64 2) ∧ W.cell? ⟨w.heap.size, 1, none⟩ = some (.int .u64 2) ∧ W.cell? ⟨w.heap.size, 2, none⟩ = some (.int .u64 2) ∧ W.cell? ⟨w.heap.size, 3, none⟩ = some (.int .u64 0) ∧ W.cell? ⟨w.heap.size, 4, none⟩ = some (.int .u64 0) ∧ Below wr.drew.heap.size wr.drew W)
      (assumption)
      (first | (go_at_call 58; (first | (with_reducible refine (c0 _).mono ?_) | (with_reducible refine (c1 _).mono ?_)); rintro e wN ⟨rfl, hbN⟩; have hSN := S6.next (by assumption : S6 w.heap.size 2 wr.drew _) hbN; clear hbN))
     all_goals (
      have hF := hSN.2.2.2.2.2
      have hBw := (below_drew HB.out).trans (hF.mono (by show w3.heap.size ≤ wr.heap.size; omega))
      have FF := Aside0.mk (And.intro (blk_below (w := wr.drew) KT.out hF) (And.intro (blk_below (w := wr.drew) KW.out hF) (And.intro (blk_below (w := wr.drew) KB.out hF) hBw)))
      clear hF hSN hBw hS
      go_wp2
      go_roundw
      case rel => exact ⟨1, by omega, by first | rfl | go_num, FF.out.1, FF.out.2.1, FF.out.2.2.1, FF.out.2.2.2⟩
      case measure => simp [intOf])
    ·obtain ⟨r0, r1, f0, f1, hr⟩ : ∃ r0 r1, XNext.f 2 2 2 0 0 0 true 3 = some r0 ∧ XNext.f 2 2 2 0 0 1 true 3 = some r1 ∧ (r0 == r1) = true := ⟨_, _, rfl, rfl, by decide +kernel⟩
     have c0 := fun W => XNext.calls 2 2 2 0 0 0 true 3 r0 W f0
     have c1 := fun W => XNext.calls 2 2 2 0 0 1 true 3 r1 W f1
     clear f0 f1
     go_upto_region 8 with (fail)
     go_region_held3 (fun W => W.cell? ⟨w.heap.size, 0, none⟩ = some (.int .i64 2) ∧ W.cell? ⟨w.heap.size, 1, none⟩ = some (.int .u64 2) ∧ W.cell? ⟨w.heap.size, 2, none⟩ = some (.int .u64 2) ∧ W.cell? ⟨w.heap.size, 3, none⟩ = some (.int .u64 0) ∧ W.cell? ⟨w.heap.size, 4, none⟩ = some (.int .u64 0) ∧ Below wr.drew.heap.size wr.drew W)
      (assumption)
      (first | (go_at_call 58; (first | (with_reducible refine (c0 _).mono ?_) | (with_reducible refine (c1 _).mono ?_)); rintro e wN ⟨rfl, hbN⟩; have hSN := S6.next (by assumption : S6 w.heap.size 2 wr.drew _) hbN; clear hbN))
     all_goals (
      have hF := hSN.2.2.2.2.2
      have hBw := (below_drew HB.out).trans (hF.mono (by show w3.heap.size ≤ wr.heap.size; omega))
      have FF := Aside0.mk (And.intro (blk_below (w := wr.drew) KT.out hF) (And.intro (blk_below (w := wr.drew) KW.out hF) (And.intro (blk_below (w := wr.drew) KB.out hF) hBw)))
      clear hF hSN hBw hS
      go_wp2
      go_roundw
      case rel => exact ⟨2, by omega, by first | rfl | go_num, FF.out.1, FF.out.2.1, FF.out.2.2.1, FF.out.2.2.2⟩
      case measure => simp [intOf])
    ·go_wp2
     go_roundw
     case rel => exact ⟨3 + 1, by omega, by first | rfl | go_num, KT.out, KW.out, HB.out⟩
     case measure => first | (simp [intOf]; done) | (simp [intOf]; omega)
  ·have g0 := blk_cell KW.out 0
   have g1 := blk_cell KW.out 1
   have gf := blk_frozen KW.out
   simp only [List.getElem?_toArray, List.getElem?_cons_zero, List.getElem?_cons_succ] at g0 g1
   go_wp2
   have hr := blk_set (blk_set KW.out 0 (.slice none 0 0)) 1 (.int .i64 0)
   exact bodyPost_ret (results_ct rfl _ _ (w.heap.size + 1) 37 #[.slice none 0 0, .int .i64 0] (0, 0) _ rfl hr Tryd.underlying37 rfl (by kernel_rfl)) rfl ⟨⟨_, _, _, _, rfl⟩, Below.setCell (p := ⟨w.heap.size + 1, 1, none⟩) (Below.setCell (p := ⟨w.heap.size + 1, 0, none⟩) (HB3.out.trans (HB.out.mono HB3.out.size)) (by show w.heap.size ≤ w.heap.size + 1; omega) _) (by show w.heap.size ≤ w.heap.size + 1; omega) _⟩
theorem tri_first (w : World) (hG : Six w) : Calls Tryd.prog 55 #[.agg #[.int .i64 2, .int .u64 2, .int .u64 4, .int .u64 0, .int .u64 0]] w fun e w' => (∃ (A : Option Addr) (n c : Nat) (o : Int), e = .returned (.tuple #[.agg #[.slice A n c, .int .i64 o], .bool true])) ∧ Below w.heap.size w w' := by
 have hbs := fun W hW => XBeside.calls 2 0 0 0 tri0 none W hW tri0_f
 simp only [errW_none] at hbs
 have HBS := Aside0.mk hbs
 have HG := Aside0.mk hG
 clear hbs hG
 go_enter Tryd.func55, Tryd.ntmps55
 go_wp2_with fail
 obtain ⟨w2, hw2⟩ : ∃ W, W = (w.alloc (.cells #[.int .i64 2, .int .u64 2, .int .u64 4, .int .u64 0, .int .u64 0] 29)).alloc (.cells #[.slice none 0 0, .int .i64 0] 37) := ⟨_, rfl⟩
 have kT : w2.heap[w.heap.size]? = some (TB7 4) := by rw [hw2]; exact blk_alloc (blk_new _ _) _
 have kW : w2.heap[w.heap.size + 1]? = some WB := by
  have := blk_new (w.alloc (.cells #[.int .i64 2, .int .u64 2, .int .u64 4, .int .u64 0, .int .u64 0] 29)) WB
  rw [World.size_alloc] at this
  rw [hw2]; exact this
 have hB2 : Below w.heap.size w w2 := by rw [hw2]; exact below_alloc (below_alloc (Below.refl _ _) _) _
 rw [← hw2]
 have HB2 := Aside0.mk hB2
 clear hw2 hB2
 refine (HBS.out w2 (HG.out.below HB2.out)).mono ?_
 rintro e w3 ⟨v, rfl, hR, hb3⟩
 obtain ⟨A, c, rfl, hlc, hC⟩ := Kd.R_reads hR
 rw [tri0_len]
 rw [tri0_len] at hlc
 have kT := blk_below kT hb3
 have kW := blk_below kW hb3
 have HB3 := Aside0.mk (HB2.out.trans (hb3.mono HB2.out.size))
 have HC := Aside0.mk hC
 have HLC := Aside0.mk hlc
 have hw4 : IntKind.i64.wrap (3 + 1) = 4 := by decide
 clear hR hC hlc hb3 HBS
 go_wp2_with fail
 go_loopw [20] (fun iv wr => ∃ n : Nat, n ≤ 1 ∧ iv = .int .i64 n ∧ wr.heap[w.heap.size]? = some (TB7 4) ∧ wr.heap[w.heap.size + 1]? = some WB ∧ Below w3.heap.size w3 wr) (fun iv _ => 1 - (intOf iv).toNat)
 case atStart => exact ⟨0, by omega, rfl, kT, kW, Below.refl _ _⟩
 case round =>
  clear kT kW
  obtain ⟨n, hn, rfl, kT, kW, hB⟩ := hrel
  have KT := Aside0.mk kT
  have KW := Aside0.mk kW
  have HB := Aside0.mk hB
  have hz3 := hB.size
  have lT := blk_lt kT
  have lW := blk_lt kW
  clear kT kW hB
  have hnn : n = 0 ∨ n = 1 := by omega
  rcases hnn with rfl | rfl
  ·go_upto_region 6 with (fail)
   obtain ⟨w5, hw5⟩ : ∃ W, W = wr.alloc (.cells #[.bool false, .bool true] 4) := ⟨_, rfl⟩
   have kB : w5.heap[wr.heap.size]? = some FB := by rw [hw5]; exact blk_new _ _
   have hB5 : Below wr.heap.size wr w5 := by rw [hw5]; exact below_alloc (Below.refl _ _) _
   rw [← hw5]
   obtain ⟨gB, hgB⟩ : ∃ g, g = wr.heap.size := ⟨_, rfl⟩
   rw [← hgB] at kB ⊢
   have kT := blk_below KT.out hB5
   have kW := blk_below KW.out hB5
   have HB5 := Aside0.mk (HB.out.trans (hB5.mono hz3))
   clear hw5 hB5 hgB KT KW HB
   try rw [show ((0 : Nat) : Int) = 0 from rfl]
   go_loopw [25] (fun iv wr => ∃ j : Nat, j ≤ 2 ∧ iv = .int .i64 j ∧ wr.heap[w.heap.size]? = some (TB7 4) ∧ wr.heap[w.heap.size + 1]? = some WB ∧ wr.heap[gB]? = some FB ∧ Below w3.heap.size w3 wr) (fun iv _ => 2 - (intOf iv).toNat)
   case atStart => exact ⟨0, by omega, rfl, kT, kW, kB, HB5.out⟩
   case round =>
    clear kT kW kB HB5
    obtain ⟨j, hj, rfl, kT, kW, kB, hB⟩ := hrel
    have KT := Aside0.mk kT
    have KW := Aside0.mk kW
    have KB := Aside0.mk kB
    have HB := Aside0.mk hB
    have hz3 := hB.size
    have b0 := blk_cell kB 0
    have b1 := blk_cell kB 1
    simp only [List.getElem?_toArray, List.getElem?_cons_zero, List.getElem?_cons_succ] at b0 b1
    have lT := blk_lt kT
    have lW := blk_lt kW
    have lB := blk_lt kB
    have hS : S6 w.heap.size 4 wr.drew wr.drew := ⟨blk_cell kT 0, blk_cell kT 1, blk_cell kT 2, blk_cell kT 3, blk_cell kT 4, Below.refl _ _⟩
    clear kT kW kB hB
    have hjj : j = 0 ∨ j = 1 ∨ j = 2 := by omega
    rcases hjj with rfl | rfl | rfl
    ·obtain ⟨r0, r1, f0, f1, hr⟩ : ∃ r0 r1, XNext.f 2 2 4 0 0 0 false 0 = some r0 ∧ XNext.f 2 2 4 0 0 1 false 0 = some r1 ∧ (r0 == r1) = true := ⟨_, _, rfl, rfl, by decide +kernel⟩
     have c0 := fun W => XNext.calls 2 2 4 0 0 0 false 0 r0 W f0
     have c1 := fun W => XNext.calls 2 2 4 0 0 1 false 0 r1 W f1
     clear f0 f1
     go_upto_region 8 with (fail)
     go_region_held3 (fun W => W.cell? ⟨w.heap.size, 0, none⟩ = some (.int .i64 2) ∧ W.cell? ⟨w.heap.size, 1, none⟩ = some (.int .u64 2) ∧ W.cell? ⟨w.heap.size, 2, none⟩ = some (.int .u64 4) ∧ W.cell? ⟨w.heap.size, 3, none⟩ = some (.int .u64 0) ∧ W.cell? ⟨w.heap.size, 4, none⟩ = some (.int .u64 0) ∧ Below wr.drew.heap.size wr.drew W)
      (assumption)
      (first | (go_at_call 58; (first | (with_reducible refine (c0 _).mono ?_) | (with_reducible refine (c1 _).mono ?_)); rintro e wN ⟨rfl, hbN⟩; have hSN := S6.next (by assumption : S6 w.heap.size 4 wr.drew _) hbN; clear hbN))
     all_goals (
      have hF := hSN.2.2.2.2.2
      have hBw := (below_drew HB.out).trans (hF.mono (by show w3.heap.size ≤ wr.heap.size; omega))
      have FF := Aside0.mk (And.intro (blk_below (w := wr.drew) KT.out hF) (And.intro (blk_below (w := wr.drew) KW.out hF) (And.intro (blk_below (w := wr.drew) KB.out hF) hBw)))
      clear hF hSN hBw hS
      go_wp2
      go_roundw
      case rel => exact ⟨1, by omega, by first | rfl | go_num, FF.out.1, FF.out.2.1, FF.out.2.2.1, FF.out.2.2.2⟩
      case measure => simp [intOf])
    ·obtain ⟨r0, r1, f0, f1, hr⟩ : ∃ r0 r1, XNext.f 2 2 4 0 0 0 true 0 = some r0 ∧ XNext.f 2 2 4 0 0 1 true 0 = some r1 ∧ (r0 == r1) = true := ⟨_, _, rfl, rfl, by decide +kernel⟩
     have c0 := fun W => XNext.calls 2 2 4 0 0 0 true 0 r0 W f0
     have c1 := fun W => XNext.calls 2 2 4 0 0 1 true 0 r1 W f1
     clear f0 f1
     go_upto_region 8 with (fail)
     go_region_held3 (fun W => W.cell? ⟨w.heap.size, 0, none⟩ = some (.int .i64 2) ∧ W.cell? ⟨w.heap.size, 1, none⟩ = some (.int .u64 2) ∧ W.cell? ⟨w.heap.size, 2, none⟩ = some (.int .u64 4) ∧ W.cell? ⟨w.heap.size, 3, none⟩ = some (.int .u64 0) ∧ W.cell? ⟨w.heap.size, 4, none⟩ = some (.int .u64 0) ∧ Below wr.drew.heap.size wr.drew W)
      (assumption)
      (first | (go_at_call 58; (first | (with_reducible refine (c0 _).mono ?_) | (with_reducible refine (c1 _).mono ?_)); rintro e wN ⟨rfl, hbN⟩; have hSN := S6.next (by assumption : S6 w.heap.size 4 wr.drew _) hbN; clear hbN))
     all_goals (
      have hF := hSN.2.2.2.2.2
      have hBw := (below_drew HB.out).trans (hF.mono (by show w3.heap.size ≤ wr.heap.size; omega))
      have FF := Aside0.mk (And.intro (blk_below (w := wr.drew) KT.out hF) (And.intro (blk_below (w := wr.drew) KW.out hF) (And.intro (blk_below (w := wr.drew) KB.out hF) hBw)))
      clear hF hSN hBw hS
      go_wp2
      go_roundw
      case rel => exact ⟨2, by omega, by first | rfl | go_num, FF.out.1, FF.out.2.1, FF.out.2.2.1, FF.out.2.2.2⟩
      case measure => simp [intOf])
    ·go_wp2
     go_roundw
     case rel => exact ⟨0 + 1, by omega, by first | rfl | go_num, KT.out, KW.out, HB.out⟩
     case measure => first | (simp [intOf]; done) | (simp [intOf]; omega)
  ·go_upto_region 6 with (fail)
   obtain ⟨w5, hw5⟩ : ∃ W, W = wr.alloc (.cells #[.bool false, .bool true] 4) := ⟨_, rfl⟩
   have kB : w5.heap[wr.heap.size]? = some FB := by rw [hw5]; exact blk_new _ _
   have hB5 : Below wr.heap.size wr w5 := by rw [hw5]; exact below_alloc (Below.refl _ _) _
   rw [← hw5]
   obtain ⟨gB, hgB⟩ : ∃ g, g = wr.heap.size := ⟨_, rfl⟩
   rw [← hgB] at kB ⊢
   have kT := blk_below KT.out hB5
   have kW := blk_below KW.out hB5
   have HB5 := Aside0.mk (HB.out.trans (hB5.mono hz3))
   clear hw5 hB5 hgB KT KW HB
   try rw [show ((1 : Nat) : Int) = 1 from rfl]
   go_loopw [25] (fun iv wr => ∃ j : Nat, j ≤ 0 ∧ iv = .int .i64 j ∧ wr.heap[w.heap.size]? = some (TB7 4) ∧ wr.heap[w.heap.size + 1]? = some WB ∧ wr.heap[gB]? = some FB ∧ Below w3.heap.size w3 wr) (fun iv _ => 0 - (intOf iv).toNat)
   case atStart => exact ⟨0, by omega, rfl, kT, kW, kB, HB5.out⟩
   case round =>
    clear kT kW kB HB5
    obtain ⟨j, hj, rfl, kT, kW, kB, hB⟩ := hrel
    have KT := Aside0.mk kT
    have KW := Aside0.mk kW
    have KB := Aside0.mk kB
    have HB := Aside0.mk hB
    have hz3 := hB.size
    have b0 := blk_cell kB 0
    have b1 := blk_cell kB 1
    simp only [List.getElem?_toArray, List.getElem?_cons_zero, List.getElem?_cons_succ] at b0 b1
    have lT := blk_lt kT
    have lW := blk_lt kW
    have lB := blk_lt kB
    have hS : S6 w.heap.size 4 wr.drew wr.drew := ⟨blk_cell kT 0, blk_cell kT 1, blk_cell kT 2, blk_cell kT 3, blk_cell kT 4, Below.refl _ _⟩
    clear kT kW kB hB
    have hjj : j = 0 := by omega
    rcases hjj with rfl
    ·obtain ⟨r0, r1, f0, f1, hr⟩ : ∃ r0 r1, XNext.f 2 2 4 0 0 0 false 1 = some r0 ∧ XNext.f 2 2 4 0 0 1 false 1 = some r1 ∧ (r0 == r1) = false := ⟨_, _, rfl, rfl, by decide +kernel⟩
     have c0 := fun W => XNext.calls 2 2 4 0 0 0 false 1 r0 W f0
     have c1 := fun W => XNext.calls 2 2 4 0 0 1 false 1 r1 W f1
     clear f0 f1
     go_upto_region 8 with (fail)
     go_region_held3 (fun W => W.cell? ⟨w.heap.size, 0, none⟩ = some (.int .i64 2) ∧ W.cell? ⟨w.heap.size, 1, none⟩ = some (.int .u64 2) ∧ W.cell? ⟨w.heap.size, 2, none⟩ = some (.int .u64 4) ∧ W.cell? ⟨w.heap.size, 3, none⟩ = some (.int .u64 0) ∧ W.cell? ⟨w.heap.size, 4, none⟩ = some (.int .u64 0) ∧ Below wr.drew.heap.size wr.drew W)
      (assumption)
      (first | (go_at_call 58; (first | (with_reducible refine (c0 _).mono ?_) | (with_reducible refine (c1 _).mono ?_)); rintro e wN ⟨rfl, hbN⟩; have hSN := S6.next (by assumption : S6 w.heap.size 4 wr.drew _) hbN; clear hbN))
     all_goals (
      have hF := hSN.2.2.2.2.2
      have hBw := (below_drew HB.out).trans (hF.mono (by show w3.heap.size ≤ wr.heap.size; omega))
      have FF := Aside0.mk (And.intro (blk_below (w := wr.drew) KT.out hF) (And.intro (blk_below (w := wr.drew) KW.out hF) (And.intro (blk_below (w := wr.drew) KB.out hF) hBw)))
      clear hF hSN hBw hS
      obtain ⟨i0, hi0, _, _, _⟩ := info_parts info65
      have hcut := cut_to (P := Tryd.prog) 34 65 .i64 Tryd.underlying34 hi0 A 3 c 1 (by decide) (by decide) HLC.out
      rw [show (1 : Int).toNat = 1 from rfl] at hcut
      have hC1 := Kd.C_take (m := 1) (Kd.C_below HC.out FF.out.2.2.2) (by rw [tri0_len]; decide)
      have hlen1 : (tri0.take 1).length = 1 := by decide +kernel
      have cl := XClone.calls A c (tri0.take 1) (tri0.take 1) _ hC1 (by rw [hlen1]; have := HLC.out; omega) (by unfold XClone.f; rw [if_pos (by rw [hlen1]; decide)])
      have co := fun A9 c9 W h1 h2 => XOf.calls A9 c9 (tri0.take 1) (ofL (tri0.take 1)) W h1 h2 (by unfold XOf.f; rw [if_pos (by rw [hlen1]; decide)])
      have CO := Aside0.mk co
      have CL := Aside0.mk cl
      clear hC1 cl co hi0 b0 b1
      rw [hlen1] at CL CO
      go_wp2_with fail
      refine CL.out.mono ?_
      rintro e wC ⟨v9, rfl, hR9, hb9⟩
      obtain ⟨A9, c9, rfl, hl9, hC9⟩ := Kd.R_reads hR9
      have kW9 := blk_below FF.out.2.1 hb9
      have hz9 := FF.out.2.2.2.size
      have HB9 := Aside0.mk (FF.out.2.2.2.trans (hb9.mono hz9))
      rw [hlen1] at hl9 hC9 ⊢
      have co9 := CO.out A9 c9 _ hC9 hl9
      have CO9 := Aside0.mk co9
      clear hR9 hb9 hC9 hl9 co9 CO CL hcut
      go_wp2_with fail
      refine CO9.out.mono ?_
      rintro e wO ⟨v10, rfl, hR10, hb10⟩
      have kW10 := blk_below kW9 hb10
      have HB10 := Aside0.mk (HB9.out.trans (hb10.mono HB9.out.size))
      obtain ⟨A10, c10, rfl, _, _⟩ := Kd.R_reads hR10
      clear hR10 hb10 CO9
      have g0 := blk_cell kW10 0
      have g1 := blk_cell kW10 1
      have gf := blk_frozen kW10
      have KW10 := Aside0.mk kW10
      simp only [List.getElem?_toArray, List.getElem?_cons_zero, List.getElem?_cons_succ] at g0 g1
      clear kW10 kW9
      go_wp2
      have hr := blk_set (blk_set KW10.out 0 (.slice A10 (ofL (tri0.take 1)).length c10)) 1 (.int .i64 1)
      exact bodyPost_ret (results_ct rfl _ _ (w.heap.size + 1) 37 #[.slice A10 (ofL (tri0.take 1)).length c10, .int .i64 1] (0, 0) _ rfl hr Tryd.underlying37 rfl (by kernel_rfl)) rfl ⟨⟨_, _, _, _, rfl⟩, Below.setCell (p := ⟨w.heap.size + 1, 1, none⟩) (Below.setCell (p := ⟨w.heap.size + 1, 0, none⟩) (HB3.out.trans (HB10.out.mono HB3.out.size)) (by show w.heap.size ≤ w.heap.size + 1; omega) _) (by show w.heap.size ≤ w.heap.size + 1; omega) _⟩)
theorem check2 (b1 : Int) (h : b1 = 2 ∨ b1 = 4) (w : World) : Calls Tryd.prog 53 #[.agg #[.int .i64 2, .int .u64 2, .int .u64 b1, .int .u64 0, .int .u64 0]] w fun e w' => e = .returned .nilIface ∧ Below w.heap.size w w' := by
 have h1 : XTCheck.f 2 2 b1 0 0 = some none := by rcases h with rfl | rfl <;> decide +kernel
 have := XTCheck.calls 2 2 b1 0 0 none w h1
 rwa [errW_none] at this
theorem isoCheck2 (b1 : Int) (ok : Bool) (h : b1 = 2 ∨ b1 = 4) (w : World) (hG : Six w)
    (htri : ∀ W, Six W → Calls Tryd.prog 55 #[.agg #[.int .i64 2, .int .u64 2, .int .u64 b1, .int .u64 0, .int .u64 0]] W fun e w' => (∃ (A : Option Addr) (n c : Nat) (o : Int), e = .returned (.tuple #[.agg #[.slice A n c, .int .i64 o], .bool ok])) ∧ Below W.heap.size W w') :
    Calls Tryd.prog 17 #[.agg #[.int .i64 2, .int .u64 2, .int .u64 b1, .int .u64 0, .int .u64 0]] w fun e w' => (∃ (A : Option Addr) (n c : Nat) (o : Int), e = .returned (.tuple #[.agg #[.slice A n c, .int .i64 o], .bool ok, .nilIface])) ∧ Below w.heap.size w w' := by
 have HT := Aside0.mk htri
 have HG := Aside0.mk hG
 have hck := fun W => check2 b1 h W
 have HCK := Aside0.mk hck
 clear htri hG hck h
 go_enter Tryd.func17, Tryd.ntmps17
 go_wp2_with fail
 obtain ⟨w2, hw2⟩ : ∃ W, W = (w.alloc (.cells #[.int .i64 2, .int .u64 2, .int .u64 b1, .int .u64 0, .int .u64 0] 29)).alloc (.cells #[.slice none 0 0, .int .i64 0] 37) := ⟨_, rfl⟩
 have kT : w2.heap[w.heap.size]? = some (TB7 b1) := by rw [hw2]; exact blk_alloc (blk_new _ _) _
 have kW : w2.heap[w.heap.size + 1]? = some WB := by
  have := blk_new (w.alloc (.cells #[.int .i64 2, .int .u64 2, .int .u64 b1, .int .u64 0, .int .u64 0] 29)) WB
  rw [World.size_alloc] at this
  rw [hw2]; exact this
 have hB2 : Below w.heap.size w w2 := by rw [hw2]; exact below_alloc (below_alloc (Below.refl _ _) _) _
 rw [← hw2]
 have HB2 := Aside0.mk hB2
 clear hw2 hB2
 refine (HCK.out w2).mono ?_
 rintro e w3 ⟨rfl, hb3⟩
 have kT := blk_below kT hb3
 have kW := blk_below kW hb3
 have HB3 := Aside0.mk (HB2.out.trans (hb3.mono HB2.out.size))
 have t0 := blk_cell kT 0
 have t1 := blk_cell kT 1
 have t2 := blk_cell kT 2
 have t3 := blk_cell kT 3
 have t4 := blk_cell kT 4
 simp only [List.getElem?_toArray, List.getElem?_cons_zero, List.getElem?_cons_succ] at t0 t1 t2 t3 t4
 clear hb3 kT HCK
 go_wp2_with fail
 refine (HT.out _ (HG.out.below HB3.out)).mono ?_
 rintro e w4 ⟨⟨A, n, c, o, rfl⟩, hb4⟩
 have kW := blk_below kW hb4
 have hz3 := HB3.out.size
 have HB4 := Aside0.mk (HB3.out.trans (hb4.mono hz3))
 have KW := Aside0.mk kW
 have hz4 := HB4.out.size
 have g0 := blk_cell kW 0
 have g1 := blk_cell kW 1
 have gf := blk_frozen kW
 simp only [List.getElem?_toArray, List.getElem?_cons_zero, List.getElem?_cons_succ] at g0 g1
 have lW := blk_lt kW
 clear t0 t1 t2 t3 t4 hb4 kW HT
 go_wp2
 have hr := fun ob : Obj => blk_alloc (blk_set (blk_set KW.out 0 (.slice A n c)) 1 (.int .i64 o)) ob
 refine bodyPost_ret (results_ctt rfl _ _ (w.heap.size + 1) 37 #[.slice A n c, .int .i64 o] (0, 0) _ rfl (hr _) Tryd.underlying37 rfl (by kernel_rfl)) rfl ⟨⟨_, _, _, _, rfl⟩, ?_⟩
 exact below_alloc2 (Below.setCell (p := ⟨w.heap.size + 1, 1, none⟩) (Below.setCell (p := ⟨w.heap.size + 1, 0, none⟩) HB4.out (by show w.heap.size ≤ w.heap.size + 1; omega) _) (by show w.heap.size ≤ w.heap.size + 1; omega) _) (by simp only [World.size_setCell]; exact hz4) _
theorem keeps0_f : iso_Keeps.f 70 2 2 4 0 0 0 = some true := by decide +kernel
theorem keeps1_f : iso_Keeps.f 70 2 2 4 0 0 1 = some false := by decide +kernel
theorem awake07_any (w : World) (hG : Six w) : Calls Tryd.prog 13 #[] w fun e w' => e = .returned (.bool true) ∧ Below w.heap.size w w' := by
 have c1 := fun W hW => isoCheck2 4 true (.inr rfl) W hW (fun W2 h2 => tri_first W2 h2)
 have c2 := fun W hW => isoCheck2 2 false (.inl rfl) W hW (fun W2 h2 => tri_same W2 h2)
 have c3 : ∀ W : World, Six W → Calls Tryd.prog 18 #[.agg #[.int .i64 2, .int .u64 2, .int .u64 4, .int .u64 0, .int .u64 0], .int .i64 0] W fun e w' => e = .returned (.bool true) ∧ Below W.heap.size W w' := fun W hW => by first | exact iso_Keeps.calls 70 2 2 4 0 0 0 true W hW keeps0_f | exact iso_Keeps.calls 70 2 2 4 0 0 0 true W keeps0_f
 have c4 : ∀ W : World, Six W → Calls Tryd.prog 18 #[.agg #[.int .i64 2, .int .u64 2, .int .u64 4, .int .u64 0, .int .u64 0], .int .i64 1] W fun e w' => e = .returned (.bool false) ∧ Below W.heap.size W w' := fun W hW => by first | exact iso_Keeps.calls 70 2 2 4 0 0 1 false W hW keeps1_f | exact iso_Keeps.calls 70 2 2 4 0 0 1 false W keeps1_f
 have C1 := Aside0.mk c1
 have C2 := Aside0.mk c2
 have C3 := Aside0.mk c3
 have C4 := Aside0.mk c4
 have HG := Aside0.mk hG
 clear c1 c2 c3 c4 hG
 go_enter Tryd.func13, Tryd.ntmps13
 go_wp2_with fail
 obtain ⟨w1, hw1⟩ : ∃ W, W = w.alloc (.cells #[.int .i64 2, .int .u64 2, .int .u64 4, .int .u64 0, .int .u64 0] 29) := ⟨_, rfl⟩
 have kT : w1.heap[w.heap.size]? = some (TB7 4) := by rw [hw1]; exact blk_new _ _
 have hB1 : Below w.heap.size w w1 := by rw [hw1]; exact below_alloc (Below.refl _ _) _
 rw [← hw1]
 have HB1 := Aside0.mk hB1
 clear hw1 hB1
 refine (C1.out _ (HG.out.below HB1.out)).mono ?_
 rintro e w2 ⟨⟨A, n, c, o, rfl⟩, hb2⟩
 have kT := blk_below kT hb2
 have HB2 := Aside0.mk (HB1.out.trans (hb2.mono HB1.out.size))
 clear hb2
 go_wp2_with fail
 obtain ⟨w3, hw3⟩ : ∃ W, W = w2.alloc (.cells #[.slice A n c, .int .i64 o] 37) := ⟨_, rfl⟩
 have hB3 : Below w2.heap.size w2 w3 := by rw [hw3]; exact below_alloc (Below.refl _ _) _
 rw [← hw3]
 have kT := blk_below kT hB3
 have HB3 := Aside0.mk (HB2.out.trans (hB3.mono HB2.out.size))
 clear hw3 hB3
 refine (C2.out _ (HG.out.below HB3.out)).mono ?_
 rintro e w4 ⟨⟨A2, n2, cc2, o2, rfl⟩, hb4⟩
 have kT := blk_below kT hb4
 have HB4 := Aside0.mk (HB3.out.trans (hb4.mono HB3.out.size))
 clear hb4
 have lT := blk_lt kT
 have hz4 := HB4.out.size
 have KT := Aside0.mk kT
 have t0 := fun ob : Obj => blk_cell (blk_alloc kT ob) 0
 have t1 := fun ob : Obj => blk_cell (blk_alloc kT ob) 1
 have t2 := fun ob : Obj => blk_cell (blk_alloc kT ob) 2
 have t3 := fun ob : Obj => blk_cell (blk_alloc kT ob) 3
 have t4 := fun ob : Obj => blk_cell (blk_alloc kT ob) 4
 simp only [List.getElem?_toArray, List.getElem?_cons_zero, List.getElem?_cons_succ] at t0 t1 t2 t3 t4
 clear kT
 go_wp2_with fail
 obtain ⟨w5, hw5⟩ : ∃ W, W = w4.alloc (.cells #[.slice A2 n2 cc2, .int .i64 o2] 37) := ⟨_, rfl⟩
 have hB5 : Below w4.heap.size w4 w5 := by rw [hw5]; exact below_alloc (Below.refl _ _) _
 rw [← hw5]
 have kT := blk_below KT.out hB5
 have HB5 := Aside0.mk (HB4.out.trans (hB5.mono hz4))
 clear hw5 hB5 t0 t1 t2 t3 t4
 refine (C3.out _ (HG.out.below HB5.out)).mono ?_
 rintro e w6 ⟨rfl, hb6⟩
 have kT := blk_below kT hb6
 have HB6 := Aside0.mk (HB5.out.trans (hb6.mono HB5.out.size))
 clear hb6
 have t0 := blk_cell kT 0
 have t1 := blk_cell kT 1
 have t2 := blk_cell kT 2
 have t3 := blk_cell kT 3
 have t4 := blk_cell kT 4
 simp only [List.getElem?_toArray, List.getElem?_cons_zero, List.getElem?_cons_succ] at t0 t1 t2 t3 t4
 go_wp2_with fail
 refine (C4.out _ (HG.out.below HB6.out)).mono ?_
 rintro e w7 ⟨rfl, hb7⟩
 have HB7 := Aside0.mk (HB6.out.trans (hb7.mono HB6.out.size))
 clear hb7 t0 t1 t2 t3 t4 kT
 go_wp2
 go_ret
 exact ⟨rfl, HB7.out⟩
def XAwake07.f : Option Bool := some true
theorem XAwake07.calls (r : Bool) (w : World) (hGSix : Six w) (h : XAwake07.f = some r) : Calls Tryd.prog 13 #[] w fun e w' => e = .returned (.bool r) ∧ Below w.heap.size w w' := by
 obtain rfl := Option.some.inj h
 exact awake07_any w hGSix
def andM (x m : Int) : Int := Go.bits .and .u64 x m
theorem some5_2 (l b0 b1 s0 s1 : Int) (w : World) (ht : l % 256 % 3 = 1) :
    Calls Tryd.prog 14 #[.agg #[.int .i64 l, .int .u64 b0, .int .u64 b1, .int .u64 s0, .int .u64 s1]] w fun e w' => e = .returned (.agg #[.int .i64 (2), .int .u64 (andM b0 14), .int .u64 (andM b1 14), .int .u64 (andM s0 15), .int .u64 (andM s1 15)]) ∧ Below w.heap.size w w' := by
 have ho := fun W => honeycomblaw05_Own.calls l b0 b1 s0 s1 l b0 b1 s0 s1 W rfl
 have hand : Go.bits .and .i64 l 255 = l % 256 := by rw [and_255]
 have hmod : (l % 256).tmod 3 = 1 := by rw [Int.tmod_eq_emod_of_nonneg (by omega), ht]
 have hnot : Go.bits .andNot .u64 15 1 = 14 := by decide
 go_enter Tryd.func14, Tryd.ntmps14
 go_upto_region 1 with (fail)
 obtain ⟨w1, hw1⟩ : ∃ w1, w1 = (w.alloc (.cells #[.int .i64 l, .int .u64 b0, .int .u64 b1, .int .u64 s0, .int .u64 s1] 25)).alloc (.cells #[.int .i64 0, .int .u64 0, .int .u64 0, .int .u64 0, .int .u64 0] 29) := ⟨_, rfl⟩
 have hsz1 : (w.alloc (.cells #[.int .i64 l, .int .u64 b0, .int .u64 b1, .int .u64 s0, .int .u64 s1] 25)).heap.size = w.heap.size + 1 := by simp
 have hbx : w1.heap[w.heap.size]? = some (.cells #[.int .i64 l, .int .u64 b0, .int .u64 b1, .int .u64 s0, .int .u64 s1] 25 (0, 0)) := by
  rw [hw1]
  exact blk_alloc (blk_new w _) _
 have hbr : w1.heap[w.heap.size + 1]? = some (.cells #[.int .i64 0, .int .u64 0, .int .u64 0, .int .u64 0, .int .u64 0] 29 (0, 0)) := by
  rw [hw1, ← hsz1]
  exact blk_new _ _
 have hB1 : Below w.heap.size w w1 := by
  rw [hw1]
  exact below_alloc (below_alloc (Below.refl _ _) _) _
 rw [← hw1]
 clear hw1 hsz1
 have x0 := blk_cell hbx 0
 have x1 := blk_cell hbx 1
 have x2 := blk_cell hbx 2
 have x3 := blk_cell hbx 3
 have x4 := blk_cell hbx 4
 simp at x0 x1 x2 x3 x4
 have BX := Aside0.mk hbx
 have BR := Aside0.mk hbr
 have HB1 := Aside0.mk hB1
 have hz1 := blk_lt hbr
 clear hbx hbr hB1
 go_wp2_with fail
 refine (ho _).mono ?_
 rintro e w2 ⟨rfl, hb⟩
 have hz2 := hb.size
 have BX2 := Aside0.mk (blk_below BX.out hb)
 have BR2 := Aside0.mk (blk_below BR.out hb)
 have HB2 := Aside0.mk (HB1.out.trans (hb.mono (by omega)))
 clear hb x0 x1 x2 x3 x4
 go_upto_region 2 with (fail)
 obtain ⟨w3, hw3⟩ : ∃ w3, w3 = w2.alloc (.cells #[.int .i64 l, .int .u64 b0, .int .u64 b1, .int .u64 s0, .int .u64 s1] 29) := ⟨_, rfl⟩
 have hbt : w3.heap[w2.heap.size]? = some (.cells #[.int .i64 l, .int .u64 b0, .int .u64 b1, .int .u64 s0, .int .u64 s1] 29 (0, 0)) := by
  rw [hw3]
  exact blk_new _ _
 have BX3 := Aside0.mk (blk_alloc BX2.out (.cells #[.int .i64 l, .int .u64 b0, .int .u64 b1, .int .u64 s0, .int .u64 s1] 29))
 have BR3 := Aside0.mk (blk_alloc BR2.out (.cells #[.int .i64 l, .int .u64 b0, .int .u64 b1, .int .u64 s0, .int .u64 s1] 29))
 have HB3 := Aside0.mk (below_alloc HB2.out (.cells #[.int .i64 l, .int .u64 b0, .int .u64 b1, .int .u64 s0, .int .u64 s1] 29))
 rw [← hw3] at BX3 BR3 HB3
 rw [← hw3]
 have hz3 := blk_lt hbt
 clear hw3
 have x0 := blk_cell BX3.out 0
 have t0 := blk_cell hbt 0
 have tf := blk_frozen hbt
 simp at x0 t0
 have BT3 := Aside0.mk hbt
 have hne : ¬ w.heap.size = w2.heap.size := by omega
 clear hbt
 go_wp2_with fail
 obtain ⟨w4, hw4⟩ : ∃ w4, w4 = (w3.setCell ⟨w2.heap.size, 0, none⟩ (.int .i64 2)).alloc (.cells #[.int .u64 0, .int .u64 18446744073709551615, .int .u64 15, .int .u64 8191] 22) := ⟨_, rfl⟩
 have BT4 := Aside0.mk (blk_alloc (blk_put BT3.out 0 (.int .i64 2) rfl) (.cells #[.int .u64 0, .int .u64 18446744073709551615, .int .u64 15, .int .u64 8191] 22))
 have BR4 := Aside0.mk (blk_alloc (blk_far BR3.out (p := ⟨w2.heap.size, 0, none⟩) (by show ¬ w.heap.size + 1 = w2.heap.size; omega) (.int .i64 2)) (.cells #[.int .u64 0, .int .u64 18446744073709551615, .int .u64 15, .int .u64 8191] 22))
 have HB4 := Aside0.mk (below_alloc (Below.setCell (p := ⟨w2.heap.size, 0, none⟩) HB3.out (by show w.heap.size ≤ w2.heap.size; omega) (.int .i64 2)) (.cells #[.int .u64 0, .int .u64 18446744073709551615, .int .u64 15, .int .u64 8191] 22))
 rw [← hw4] at BT4 BR4 HB4
 rw [← hw4]
 have hz4 := blk_lt BT4.out
 clear hw4 x0 t0 tf
 go_loopw [19] (fun i wr => ∃ (j : Nat) (B0 B1 S0 S1 : Int), j ≤ 2 ∧ i = .int .i64 j ∧ B0 = (if 0 < j then andM b0 14 else b0) ∧ B1 = (if 1 < j then andM b1 14 else b1) ∧ S0 = (if 0 < j then andM s0 15 else s0) ∧ S1 = (if 1 < j then andM s1 15 else s1) ∧ wr.heap[w2.heap.size]? = some (.cells #[.int .i64 2, .int .u64 B0, .int .u64 B1, .int .u64 S0, .int .u64 S1] 29 (0, 0)) ∧ Below w2.heap.size w4 wr) (fun i _ => 2 - (intOf i).toNat)
 case atStart => exact ⟨0, b0, b1, s0, s1, by omega, rfl, rfl, rfl, rfl, rfl, BT4.out, Below.refl _ _⟩
 case round =>
  obtain ⟨j, B0, B1, S0, S1, hj, rfl, e0, e1, e2, e3, hbt, hb⟩ := hrel
  have HBR := Aside0.mk hb
  have BTR := Aside0.mk hbt
  have E := Aside0.mk (And.intro e0 (And.intro e1 (And.intro e2 e3)))
  have t0 := blk_cell hbt 0
  have t1 := blk_cell hbt 1
  have t2 := blk_cell hbt 2
  have t3 := blk_cell hbt 3
  have t4 := blk_cell hbt 4
  have tf := blk_frozen hbt
  simp at t0 t1 t2 t3 t4
  clear hb hbt e0 e1 e2 e3
  have hjj : j = 0 ∨ j = 1 ∨ j = 2 := by omega
  rcases hjj with rfl | rfl | rfl
  ·go_wp2
   go_roundw
   case rel =>
    obtain ⟨e0, e1, e2, e3⟩ := E.out
    refine ⟨1, andM B0 14, B1, andM S0 15, S1, by omega, by first | rfl | go_num, by rw [e0]; rfl, by rw [e1]; rfl, by rw [e2]; rfl, by rw [e3]; rfl, ?_, ?_⟩
    ·exact blk_put (blk_put BTR.out 1 _ rfl) 3 _ rfl
    ·exact Below.setCell (p := ⟨w2.heap.size, 3, none⟩) (Below.setCell (p := ⟨w2.heap.size, 1, none⟩) HBR.out (Nat.le_refl _) _) (Nat.le_refl _) _
   case measure => simp [intOf]
  ·go_wp2
   go_roundw
   case rel =>
    obtain ⟨e0, e1, e2, e3⟩ := E.out
    refine ⟨2, B0, andM B1 14, S0, andM S1 15, by omega, by first | rfl | go_num, by rw [e0]; rfl, by rw [e1]; rfl, by rw [e2]; rfl, by rw [e3]; rfl, ?_, ?_⟩
    ·exact blk_put (blk_put BTR.out 2 _ rfl) 4 _ rfl
    ·exact Below.setCell (p := ⟨w2.heap.size, 4, none⟩) (Below.setCell (p := ⟨w2.heap.size, 2, none⟩) HBR.out (Nat.le_refl _) _) (Nat.le_refl _) _
   case measure => simp [intOf]
  ·obtain ⟨e0, e1, e2, e3⟩ := E.out
   have f0 : B0 = andM b0 14 := e0
   have f1 : B1 = andM b1 14 := e1
   have f2 : S0 = andM s0 15 := e2
   have f3 : S1 = andM s1 15 := e3
   clear e0 e1 e2 e3 E
   subst f0 f1 f2 f3
   have hr : wr.heap[w.heap.size + 1]? = _ := (HBR.out.block (w.heap.size + 1) (by omega)).trans BR4.out
   have rf := blk_frozen hr
   have q0 := blk_cell hr 0
   have q1 := blk_cell hr 1
   have q2 := blk_cell hr 2
   have q3 := blk_cell hr 3
   have q4 := blk_cell hr 4
   simp at q0 q1 q2 q3 q4
   have RR := Aside0.mk hr
   clear hr
   go_wp2
   have RR' := RR
   have hr := blk_set (blk_set (blk_set (blk_set (blk_set RR'.out 0 (.int .i64 (2))) 1 (.int .u64 (andM b0 14))) 2 (.int .u64 (andM b1 14))) 3 (.int .u64 (andM s0 15))) 4 (.int .u64 (andM s1 15))
   refine bodyPost_ret (results_cell_row rfl _ _ (w.heap.size + 1) 29 #[.int .i64 (2), .int .u64 (andM b0 14), .int .u64 (andM b1 14), .int .u64 (andM s0 15), .int .u64 (andM s1 15)] (0, 0) _ rfl hr Tryd.underlying29 rfl (by kernel_rfl)) rfl ⟨rfl, ?_⟩
   have hbb : Below w.heap.size w wr := HB4.out.trans (HBR.out.mono (by omega))
   exact Below.setCell (p := ⟨w.heap.size + 1, 4, none⟩) (Below.setCell (p := ⟨w.heap.size + 1, 3, none⟩) (Below.setCell (p := ⟨w.heap.size + 1, 2, none⟩) (Below.setCell (p := ⟨w.heap.size + 1, 1, none⟩) (Below.setCell (p := ⟨w.heap.size + 1, 0, none⟩) hbb (Nat.le_succ _) _) (Nat.le_succ _) _) (Nat.le_succ _) _) (Nat.le_succ _) _) (Nat.le_succ _) _
theorem some5_3 (l b0 b1 s0 s1 : Int) (w : World) (ht : l % 256 % 3 = 2) :
    Calls Tryd.prog 14 #[.agg #[.int .i64 l, .int .u64 b0, .int .u64 b1, .int .u64 s0, .int .u64 s1]] w fun e w' => e = .returned (.agg #[.int .i64 (3), .int .u64 (andM b0 8190), .int .u64 (andM b1 8190), .int .u64 (andM s0 8191), .int .u64 (andM s1 8191)]) ∧ Below w.heap.size w w' := by
 have ho := fun W => honeycomblaw05_Own.calls l b0 b1 s0 s1 l b0 b1 s0 s1 W rfl
 have hand : Go.bits .and .i64 l 255 = l % 256 := by rw [and_255]
 have hmod : (l % 256).tmod 3 = 2 := by rw [Int.tmod_eq_emod_of_nonneg (by omega), ht]
 have hnot : Go.bits .andNot .u64 8191 1 = 8190 := by decide
 go_enter Tryd.func14, Tryd.ntmps14
 go_upto_region 1 with (fail)
 obtain ⟨w1, hw1⟩ : ∃ w1, w1 = (w.alloc (.cells #[.int .i64 l, .int .u64 b0, .int .u64 b1, .int .u64 s0, .int .u64 s1] 25)).alloc (.cells #[.int .i64 0, .int .u64 0, .int .u64 0, .int .u64 0, .int .u64 0] 29) := ⟨_, rfl⟩
 have hsz1 : (w.alloc (.cells #[.int .i64 l, .int .u64 b0, .int .u64 b1, .int .u64 s0, .int .u64 s1] 25)).heap.size = w.heap.size + 1 := by simp
 have hbx : w1.heap[w.heap.size]? = some (.cells #[.int .i64 l, .int .u64 b0, .int .u64 b1, .int .u64 s0, .int .u64 s1] 25 (0, 0)) := by
  rw [hw1]
  exact blk_alloc (blk_new w _) _
 have hbr : w1.heap[w.heap.size + 1]? = some (.cells #[.int .i64 0, .int .u64 0, .int .u64 0, .int .u64 0, .int .u64 0] 29 (0, 0)) := by
  rw [hw1, ← hsz1]
  exact blk_new _ _
 have hB1 : Below w.heap.size w w1 := by
  rw [hw1]
  exact below_alloc (below_alloc (Below.refl _ _) _) _
 rw [← hw1]
 clear hw1 hsz1
 have x0 := blk_cell hbx 0
 have x1 := blk_cell hbx 1
 have x2 := blk_cell hbx 2
 have x3 := blk_cell hbx 3
 have x4 := blk_cell hbx 4
 simp at x0 x1 x2 x3 x4
 have BX := Aside0.mk hbx
 have BR := Aside0.mk hbr
 have HB1 := Aside0.mk hB1
 have hz1 := blk_lt hbr
 clear hbx hbr hB1
 go_wp2_with fail
 refine (ho _).mono ?_
 rintro e w2 ⟨rfl, hb⟩
 have hz2 := hb.size
 have BX2 := Aside0.mk (blk_below BX.out hb)
 have BR2 := Aside0.mk (blk_below BR.out hb)
 have HB2 := Aside0.mk (HB1.out.trans (hb.mono (by omega)))
 clear hb x0 x1 x2 x3 x4
 go_upto_region 2 with (fail)
 obtain ⟨w3, hw3⟩ : ∃ w3, w3 = w2.alloc (.cells #[.int .i64 l, .int .u64 b0, .int .u64 b1, .int .u64 s0, .int .u64 s1] 29) := ⟨_, rfl⟩
 have hbt : w3.heap[w2.heap.size]? = some (.cells #[.int .i64 l, .int .u64 b0, .int .u64 b1, .int .u64 s0, .int .u64 s1] 29 (0, 0)) := by
  rw [hw3]
  exact blk_new _ _
 have BX3 := Aside0.mk (blk_alloc BX2.out (.cells #[.int .i64 l, .int .u64 b0, .int .u64 b1, .int .u64 s0, .int .u64 s1] 29))
 have BR3 := Aside0.mk (blk_alloc BR2.out (.cells #[.int .i64 l, .int .u64 b0, .int .u64 b1, .int .u64 s0, .int .u64 s1] 29))
 have HB3 := Aside0.mk (below_alloc HB2.out (.cells #[.int .i64 l, .int .u64 b0, .int .u64 b1, .int .u64 s0, .int .u64 s1] 29))
 rw [← hw3] at BX3 BR3 HB3
 rw [← hw3]
 have hz3 := blk_lt hbt
 clear hw3
 have x0 := blk_cell BX3.out 0
 have t0 := blk_cell hbt 0
 have tf := blk_frozen hbt
 simp at x0 t0
 have BT3 := Aside0.mk hbt
 have hne : ¬ w.heap.size = w2.heap.size := by omega
 clear hbt
 go_wp2_with fail
 obtain ⟨w4, hw4⟩ : ∃ w4, w4 = (w3.setCell ⟨w2.heap.size, 0, none⟩ (.int .i64 3)).alloc (.cells #[.int .u64 0, .int .u64 18446744073709551615, .int .u64 15, .int .u64 8191] 22) := ⟨_, rfl⟩
 have BT4 := Aside0.mk (blk_alloc (blk_put BT3.out 0 (.int .i64 3) rfl) (.cells #[.int .u64 0, .int .u64 18446744073709551615, .int .u64 15, .int .u64 8191] 22))
 have BR4 := Aside0.mk (blk_alloc (blk_far BR3.out (p := ⟨w2.heap.size, 0, none⟩) (by show ¬ w.heap.size + 1 = w2.heap.size; omega) (.int .i64 3)) (.cells #[.int .u64 0, .int .u64 18446744073709551615, .int .u64 15, .int .u64 8191] 22))
 have HB4 := Aside0.mk (below_alloc (Below.setCell (p := ⟨w2.heap.size, 0, none⟩) HB3.out (by show w.heap.size ≤ w2.heap.size; omega) (.int .i64 3)) (.cells #[.int .u64 0, .int .u64 18446744073709551615, .int .u64 15, .int .u64 8191] 22))
 rw [← hw4] at BT4 BR4 HB4
 rw [← hw4]
 have hz4 := blk_lt BT4.out
 clear hw4 x0 t0 tf
 go_loopw [19] (fun i wr => ∃ (j : Nat) (B0 B1 S0 S1 : Int), j ≤ 2 ∧ i = .int .i64 j ∧ B0 = (if 0 < j then andM b0 8190 else b0) ∧ B1 = (if 1 < j then andM b1 8190 else b1) ∧ S0 = (if 0 < j then andM s0 8191 else s0) ∧ S1 = (if 1 < j then andM s1 8191 else s1) ∧ wr.heap[w2.heap.size]? = some (.cells #[.int .i64 3, .int .u64 B0, .int .u64 B1, .int .u64 S0, .int .u64 S1] 29 (0, 0)) ∧ Below w2.heap.size w4 wr) (fun i _ => 2 - (intOf i).toNat)
 case atStart => exact ⟨0, b0, b1, s0, s1, by omega, rfl, rfl, rfl, rfl, rfl, BT4.out, Below.refl _ _⟩
 case round =>
  obtain ⟨j, B0, B1, S0, S1, hj, rfl, e0, e1, e2, e3, hbt, hb⟩ := hrel
  have HBR := Aside0.mk hb
  have BTR := Aside0.mk hbt
  have E := Aside0.mk (And.intro e0 (And.intro e1 (And.intro e2 e3)))
  have t0 := blk_cell hbt 0
  have t1 := blk_cell hbt 1
  have t2 := blk_cell hbt 2
  have t3 := blk_cell hbt 3
  have t4 := blk_cell hbt 4
  have tf := blk_frozen hbt
  simp at t0 t1 t2 t3 t4
  clear hb hbt e0 e1 e2 e3
  have hjj : j = 0 ∨ j = 1 ∨ j = 2 := by omega
  rcases hjj with rfl | rfl | rfl
  ·go_wp2
   go_roundw
   case rel =>
    obtain ⟨e0, e1, e2, e3⟩ := E.out
    refine ⟨1, andM B0 8190, B1, andM S0 8191, S1, by omega, by first | rfl | go_num, by rw [e0]; rfl, by rw [e1]; rfl, by rw [e2]; rfl, by rw [e3]; rfl, ?_, ?_⟩
    ·exact blk_put (blk_put BTR.out 1 _ rfl) 3 _ rfl
    ·exact Below.setCell (p := ⟨w2.heap.size, 3, none⟩) (Below.setCell (p := ⟨w2.heap.size, 1, none⟩) HBR.out (Nat.le_refl _) _) (Nat.le_refl _) _
   case measure => simp [intOf]
  ·go_wp2
   go_roundw
   case rel =>
    obtain ⟨e0, e1, e2, e3⟩ := E.out
    refine ⟨2, B0, andM B1 8190, S0, andM S1 8191, by omega, by first | rfl | go_num, by rw [e0]; rfl, by rw [e1]; rfl, by rw [e2]; rfl, by rw [e3]; rfl, ?_, ?_⟩
    ·exact blk_put (blk_put BTR.out 2 _ rfl) 4 _ rfl
    ·exact Below.setCell (p := ⟨w2.heap.size, 4, none⟩) (Below.setCell (p := ⟨w2.heap.size, 2, none⟩) HBR.out (Nat.le_refl _) _) (Nat.le_refl _) _
   case measure => simp [intOf]
  ·obtain ⟨e0, e1, e2, e3⟩ := E.out
   have f0 : B0 = andM b0 8190 := e0
   have f1 : B1 = andM b1 8190 := e1
   have f2 : S0 = andM s0 8191 := e2
   have f3 : S1 = andM s1 8191 := e3
   clear e0 e1 e2 e3 E
   subst f0 f1 f2 f3
   have hr : wr.heap[w.heap.size + 1]? = _ := (HBR.out.block (w.heap.size + 1) (by omega)).trans BR4.out
   have rf := blk_frozen hr
   have q0 := blk_cell hr 0
   have q1 := blk_cell hr 1
   have q2 := blk_cell hr 2
   have q3 := blk_cell hr 3
   have q4 := blk_cell hr 4
   simp at q0 q1 q2 q3 q4
   have RR := Aside0.mk hr
   clear hr
   go_wp2
   have RR' := RR
   have hr := blk_set (blk_set (blk_set (blk_set (blk_set RR'.out 0 (.int .i64 (3))) 1 (.int .u64 (andM b0 8190))) 2 (.int .u64 (andM b1 8190))) 3 (.int .u64 (andM s0 8191))) 4 (.int .u64 (andM s1 8191))
   refine bodyPost_ret (results_cell_row rfl _ _ (w.heap.size + 1) 29 #[.int .i64 (3), .int .u64 (andM b0 8190), .int .u64 (andM b1 8190), .int .u64 (andM s0 8191), .int .u64 (andM s1 8191)] (0, 0) _ rfl hr Tryd.underlying29 rfl (by kernel_rfl)) rfl ⟨rfl, ?_⟩
   have hbb : Below w.heap.size w wr := HB4.out.trans (HBR.out.mono (by omega))
   exact Below.setCell (p := ⟨w.heap.size + 1, 4, none⟩) (Below.setCell (p := ⟨w.heap.size + 1, 3, none⟩) (Below.setCell (p := ⟨w.heap.size + 1, 2, none⟩) (Below.setCell (p := ⟨w.heap.size + 1, 1, none⟩) (Below.setCell (p := ⟨w.heap.size + 1, 0, none⟩) hbb (Nat.le_succ _) _) (Nat.le_succ _) _) (Nat.le_succ _) _) (Nat.le_succ _) _) (Nat.le_succ _) _
theorem some5_1 (l b0 b1 s0 s1 : Int) (w : World) (ht : l % 256 % 3 = 0) :
    Calls Tryd.prog 14 #[.agg #[.int .i64 l, .int .u64 b0, .int .u64 b1, .int .u64 s0, .int .u64 s1]] w fun e w' => e = .returned (.agg #[.int .i64 (1), .int .u64 (andM b0 18446744073709551614), .int .u64 (0), .int .u64 (andM s0 18446744073709551615), .int .u64 (0)]) ∧ Below w.heap.size w w' := by
 have ho := fun W => honeycomblaw05_Own.calls l b0 b1 s0 s1 l b0 b1 s0 s1 W rfl
 have hand : Go.bits .and .i64 l 255 = l % 256 := by rw [and_255]
 have hmod : (l % 256).tmod 3 = 0 := by rw [Int.tmod_eq_emod_of_nonneg (by omega), ht]
 have hnot : Go.bits .andNot .u64 18446744073709551615 1 = 18446744073709551614 := by decide
 go_enter Tryd.func14, Tryd.ntmps14
 go_upto_region 1 with (fail)
 obtain ⟨w1, hw1⟩ : ∃ w1, w1 = (w.alloc (.cells #[.int .i64 l, .int .u64 b0, .int .u64 b1, .int .u64 s0, .int .u64 s1] 25)).alloc (.cells #[.int .i64 0, .int .u64 0, .int .u64 0, .int .u64 0, .int .u64 0] 29) := ⟨_, rfl⟩
 have hsz1 : (w.alloc (.cells #[.int .i64 l, .int .u64 b0, .int .u64 b1, .int .u64 s0, .int .u64 s1] 25)).heap.size = w.heap.size + 1 := by simp
 have hbx : w1.heap[w.heap.size]? = some (.cells #[.int .i64 l, .int .u64 b0, .int .u64 b1, .int .u64 s0, .int .u64 s1] 25 (0, 0)) := by
  rw [hw1]
  exact blk_alloc (blk_new w _) _
 have hbr : w1.heap[w.heap.size + 1]? = some (.cells #[.int .i64 0, .int .u64 0, .int .u64 0, .int .u64 0, .int .u64 0] 29 (0, 0)) := by
  rw [hw1, ← hsz1]
  exact blk_new _ _
 have hB1 : Below w.heap.size w w1 := by
  rw [hw1]
  exact below_alloc (below_alloc (Below.refl _ _) _) _
 rw [← hw1]
 clear hw1 hsz1
 have x0 := blk_cell hbx 0
 have x1 := blk_cell hbx 1
 have x2 := blk_cell hbx 2
 have x3 := blk_cell hbx 3
 have x4 := blk_cell hbx 4
 simp at x0 x1 x2 x3 x4
 have BX := Aside0.mk hbx
 have BR := Aside0.mk hbr
 have HB1 := Aside0.mk hB1
 have hz1 := blk_lt hbr
 clear hbx hbr hB1
 go_wp2_with fail
 refine (ho _).mono ?_
 rintro e w2 ⟨rfl, hb⟩
 have hz2 := hb.size
 have BX2 := Aside0.mk (blk_below BX.out hb)
 have BR2 := Aside0.mk (blk_below BR.out hb)
 have HB2 := Aside0.mk (HB1.out.trans (hb.mono (by omega)))
 clear hb x0 x1 x2 x3 x4
 go_upto_region 2 with (fail)
 obtain ⟨w3, hw3⟩ : ∃ w3, w3 = w2.alloc (.cells #[.int .i64 l, .int .u64 b0, .int .u64 b1, .int .u64 s0, .int .u64 s1] 29) := ⟨_, rfl⟩
 have hbt : w3.heap[w2.heap.size]? = some (.cells #[.int .i64 l, .int .u64 b0, .int .u64 b1, .int .u64 s0, .int .u64 s1] 29 (0, 0)) := by
  rw [hw3]
  exact blk_new _ _
 have BX3 := Aside0.mk (blk_alloc BX2.out (.cells #[.int .i64 l, .int .u64 b0, .int .u64 b1, .int .u64 s0, .int .u64 s1] 29))
 have BR3 := Aside0.mk (blk_alloc BR2.out (.cells #[.int .i64 l, .int .u64 b0, .int .u64 b1, .int .u64 s0, .int .u64 s1] 29))
 have HB3 := Aside0.mk (below_alloc HB2.out (.cells #[.int .i64 l, .int .u64 b0, .int .u64 b1, .int .u64 s0, .int .u64 s1] 29))
 rw [← hw3] at BX3 BR3 HB3
 rw [← hw3]
 have hz3 := blk_lt hbt
 clear hw3
 have x0 := blk_cell BX3.out 0
 have t0 := blk_cell hbt 0
 have tf := blk_frozen hbt
 simp at x0 t0
 have BT3 := Aside0.mk hbt
 have hne : ¬ w.heap.size = w2.heap.size := by omega
 clear hbt
 go_wp2_with fail
 obtain ⟨w4, hw4⟩ : ∃ w4, w4 = (w3.setCell ⟨w2.heap.size, 0, none⟩ (.int .i64 1)).alloc (.cells #[.int .u64 0, .int .u64 18446744073709551615, .int .u64 15, .int .u64 8191] 22) := ⟨_, rfl⟩
 have BT4 := Aside0.mk (blk_alloc (blk_put BT3.out 0 (.int .i64 1) rfl) (.cells #[.int .u64 0, .int .u64 18446744073709551615, .int .u64 15, .int .u64 8191] 22))
 have BR4 := Aside0.mk (blk_alloc (blk_far BR3.out (p := ⟨w2.heap.size, 0, none⟩) (by show ¬ w.heap.size + 1 = w2.heap.size; omega) (.int .i64 1)) (.cells #[.int .u64 0, .int .u64 18446744073709551615, .int .u64 15, .int .u64 8191] 22))
 have HB4 := Aside0.mk (below_alloc (Below.setCell (p := ⟨w2.heap.size, 0, none⟩) HB3.out (by show w.heap.size ≤ w2.heap.size; omega) (.int .i64 1)) (.cells #[.int .u64 0, .int .u64 18446744073709551615, .int .u64 15, .int .u64 8191] 22))
 rw [← hw4] at BT4 BR4 HB4
 rw [← hw4]
 have hz4 := blk_lt BT4.out
 clear hw4 x0 t0 tf
 go_loopw [19] (fun i wr => ∃ (j : Nat) (B0 B1 S0 S1 : Int), j ≤ 2 ∧ i = .int .i64 j ∧ B0 = (if 0 < j then andM b0 18446744073709551614 else b0) ∧ B1 = (if 1 < j then andM b1 18446744073709551614 else b1) ∧ S0 = (if 0 < j then andM s0 18446744073709551615 else s0) ∧ S1 = (if 1 < j then andM s1 18446744073709551615 else s1) ∧ wr.heap[w2.heap.size]? = some (.cells #[.int .i64 1, .int .u64 B0, .int .u64 B1, .int .u64 S0, .int .u64 S1] 29 (0, 0)) ∧ Below w2.heap.size w4 wr) (fun i _ => 2 - (intOf i).toNat)
 case atStart => exact ⟨0, b0, b1, s0, s1, by omega, rfl, rfl, rfl, rfl, rfl, BT4.out, Below.refl _ _⟩
 case round =>
  obtain ⟨j, B0, B1, S0, S1, hj, rfl, e0, e1, e2, e3, hbt, hb⟩ := hrel
  have HBR := Aside0.mk hb
  have BTR := Aside0.mk hbt
  have E := Aside0.mk (And.intro e0 (And.intro e1 (And.intro e2 e3)))
  have t0 := blk_cell hbt 0
  have t1 := blk_cell hbt 1
  have t2 := blk_cell hbt 2
  have t3 := blk_cell hbt 3
  have t4 := blk_cell hbt 4
  have tf := blk_frozen hbt
  simp at t0 t1 t2 t3 t4
  clear hb hbt e0 e1 e2 e3
  have hjj : j = 0 ∨ j = 1 ∨ j = 2 := by omega
  rcases hjj with rfl | rfl | rfl
  ·go_wp2
   go_roundw
   case rel =>
    obtain ⟨e0, e1, e2, e3⟩ := E.out
    refine ⟨1, andM B0 18446744073709551614, B1, andM S0 18446744073709551615, S1, by omega, by first | rfl | go_num, by rw [e0]; rfl, by rw [e1]; rfl, by rw [e2]; rfl, by rw [e3]; rfl, ?_, ?_⟩
    ·exact blk_put (blk_put BTR.out 1 _ rfl) 3 _ rfl
    ·exact Below.setCell (p := ⟨w2.heap.size, 3, none⟩) (Below.setCell (p := ⟨w2.heap.size, 1, none⟩) HBR.out (Nat.le_refl _) _) (Nat.le_refl _) _
   case measure => simp [intOf]
  ·go_wp2
   go_roundw
   case rel =>
    obtain ⟨e0, e1, e2, e3⟩ := E.out
    refine ⟨2, B0, andM B1 18446744073709551614, S0, andM S1 18446744073709551615, by omega, by first | rfl | go_num, by rw [e0]; rfl, by rw [e1]; rfl, by rw [e2]; rfl, by rw [e3]; rfl, ?_, ?_⟩
    ·exact blk_put (blk_put BTR.out 2 _ rfl) 4 _ rfl
    ·exact Below.setCell (p := ⟨w2.heap.size, 4, none⟩) (Below.setCell (p := ⟨w2.heap.size, 2, none⟩) HBR.out (Nat.le_refl _) _) (Nat.le_refl _) _
   case measure => simp [intOf]
  ·obtain ⟨e0, e1, e2, e3⟩ := E.out
   have f0 : B0 = andM b0 18446744073709551614 := e0
   have f1 : B1 = andM b1 18446744073709551614 := e1
   have f2 : S0 = andM s0 18446744073709551615 := e2
   have f3 : S1 = andM s1 18446744073709551615 := e3
   clear e0 e1 e2 e3 E
   subst f0 f1 f2 f3
   have hr : wr.heap[w.heap.size + 1]? = _ := (HBR.out.block (w.heap.size + 1) (by omega)).trans BR4.out
   have rf := blk_frozen hr
   have q0 := blk_cell hr 0
   have q1 := blk_cell hr 1
   have q2 := blk_cell hr 2
   have q3 := blk_cell hr 3
   have q4 := blk_cell hr 4
   simp at q0 q1 q2 q3 q4
   have RR := Aside0.mk hr
   clear hr
   go_wp2
   have RR' := Aside0.mk (blk_far (blk_far RR.out (p := ⟨w2.heap.size, 2, none⟩) (by show ¬ w.heap.size + 1 = w2.heap.size; omega) (.int .u64 0)) (p := ⟨w2.heap.size, 4, none⟩) (by show ¬ w.heap.size + 1 = w2.heap.size; omega) (.int .u64 0))
   have hr := blk_set (blk_set (blk_set (blk_set (blk_set RR'.out 0 (.int .i64 (1))) 1 (.int .u64 (andM b0 18446744073709551614))) 2 (.int .u64 (0))) 3 (.int .u64 (andM s0 18446744073709551615))) 4 (.int .u64 (0))
   refine bodyPost_ret (results_cell_row rfl _ _ (w.heap.size + 1) 29 #[.int .i64 (1), .int .u64 (andM b0 18446744073709551614), .int .u64 (0), .int .u64 (andM s0 18446744073709551615), .int .u64 (0)] (0, 0) _ rfl hr Tryd.underlying29 rfl (by kernel_rfl)) rfl ⟨rfl, ?_⟩
   have hbb : Below w.heap.size w ((wr.setCell ⟨w2.heap.size, 2, none⟩ (.int .u64 0)).setCell ⟨w2.heap.size, 4, none⟩ (.int .u64 0)) := Below.setCell (p := ⟨w2.heap.size, 4, none⟩) (Below.setCell (p := ⟨w2.heap.size, 2, none⟩) (HB4.out.trans (HBR.out.mono (by omega))) (by show w.heap.size ≤ w2.heap.size; omega) _) (by show w.heap.size ≤ w2.heap.size; omega) _
   exact Below.setCell (p := ⟨w.heap.size + 1, 4, none⟩) (Below.setCell (p := ⟨w.heap.size + 1, 3, none⟩) (Below.setCell (p := ⟨w.heap.size + 1, 2, none⟩) (Below.setCell (p := ⟨w.heap.size + 1, 1, none⟩) (Below.setCell (p := ⟨w.heap.size + 1, 0, none⟩) hbb (Nat.le_succ _) _) (Nat.le_succ _) _) (Nat.le_succ _) _) (Nat.le_succ _) _) (Nat.le_succ _) _
def latT (l : Int) : Int := 1 + l % 256 % 3
def maskT (t : Int) : Int := if t = 1 then 18446744073709551615 else if t = 2 then 15 else 8191
def bornT (t : Int) : Int := if t = 1 then 18446744073709551614 else if t = 2 then 14 else 8190
def XSome5.f (l b0 b1 s0 s1 : Int) : Option (Int × Int × Int × Int × Int) := some (latT l, andM b0 (bornT (latT l)), if latT l = 1 then 0 else andM b1 (bornT (latT l)), andM s0 (maskT (latT l)), if latT l = 1 then 0 else andM s1 (maskT (latT l)))
theorem XSome5.calls (a0_0 : Int) (a0_1 : Int) (a0_2 : Int) (a0_3 : Int) (a0_4 : Int) (r1 : Int) (r2 : Int) (r3 : Int) (r4 : Int) (r5 : Int) (w : World) (h : XSome5.f a0_0 a0_1 a0_2 a0_3 a0_4 = some (r1, r2, r3, r4, r5)) :
    Calls Tryd.prog 14 #[.agg #[.int .i64 a0_0, .int .u64 a0_1, .int .u64 a0_2, .int .u64 a0_3, .int .u64 a0_4]] w fun e w' => e = .returned (.agg #[.int .i64 r1, .int .u64 r2, .int .u64 r3, .int .u64 r4, .int .u64 r5]) ∧ Below w.heap.size w w' := by
 simp only [XSome5.f, Option.some.injEq, Prod.mk.injEq] at h
 obtain ⟨rfl, rfl, rfl, rfl, rfl⟩ := h
 have hc : a0_0 % 256 % 3 = 0 ∨ a0_0 % 256 % 3 = 1 ∨ a0_0 % 256 % 3 = 2 := by omega
 rcases hc with hc | hc | hc
 ·have e : latT a0_0 = 1 := by unfold latT; omega
  rw [e]
  exact some5_1 _ _ _ _ _ w hc
 ·have e : latT a0_0 = 2 := by unfold latT; omega
  rw [e]
  exact some5_2 _ _ _ _ _ w hc
 ·have e : latT a0_0 = 3 := by unfold latT; omega
  rw [e]
  exact some5_3 _ _ _ _ _ w hc
theorem leO_addG {α : Type} {g : Nat → Option α} (h : ∀ k, LeO (g k) (g (k + 1))) {n : Nat} {r : α} (hn : g n = some r) : ∀ m, g (n + m) = some r
 | 0 => hn
 | m + 1 => h (n + m) r (leO_addG h hn m)
theorem leO_ge {α : Type} {g : Nat → Option α} (h : ∀ k, LeO (g k) (g (k + 1))) {n : Nat} {r : α} (hn : g n = some r) (K : Nat) (hK : n ≤ K) : g K = some r := by
 obtain ⟨m, rfl⟩ : ∃ m, K = n + m := ⟨K - n, by omega⟩
 exact leO_addG h hn m
def KP (L B0 B1 S0 S1 : Int) (p : Nat) : Prop := if L = 1 then ∀ q : Nat, q < 64 → badAt B0 S0 p q = false else (p % 2 = 0 ∨ (B0 = B1 ∧ S0 = S1))
theorem badH_none (B S m1 m2 o : Nat) (hB : B < 18446744073709551616) (hS : S < 18446744073709551616) (ho : o < 18446744073709551616) (h1 : m1 &&& (o ||| 1) = 0) (h2 : m2 &&& o = 0) : badH ((B &&& m1 : Nat) : Int) ((S &&& m2 : Nat) : Int) (o : Int) = false := by
 unfold badH
 have e := or_nat o 1 ho (by decide)
 rw [show ((1 : Nat) : Int) = 1 from rfl] at e
 rw [e, and_nat _ _ (Nat.lt_of_le_of_lt Nat.and_le_left hB) (Nat.or_lt_two_pow (n := 64) ho (by decide)), and_nat _ _ (Nat.lt_of_le_of_lt Nat.and_le_left hS) ho, Nat.and_assoc, Nat.and_assoc, h1, h2]
 simp
theorem badH_zero (o : Int) (ho : o = 18446744073709551615) : badH 0 0 o = false := by subst ho; decide +kernel
theorem some_check (l : Int) (B B1 S S1 : Nat) (hB : B < 18446744073709551616) (hB1 : B1 < 18446744073709551616) (hS : S < 18446744073709551616) (hS1 : S1 < 18446744073709551616) :
    ∃ L b0 b1 s0 s1, XSome5.f l B B1 S S1 = some (L, b0, b1, s0, s1) ∧ (L = 1 ∨ L = 2 ∨ L = 3) ∧ (L = 1 → b1 = 0 ∧ s1 = 0) ∧ checkT L b0 b1 s0 s1 = none ∧ (L ≠ 1 → checkT L b0 b0 s0 s0 = none) := by
 have hL : latT l = 1 ∨ latT l = 2 ∨ latT l = 3 := by unfold latT; omega
 unfold XSome5.f
 rcases hL with hL | hL | hL <;> rw [hL]
 ·have e1 : andM B (bornT 1) = ((B &&& 18446744073709551614 : Nat) : Int) := and_nat B 18446744073709551614 hB (by decide)
  have e2 : andM S (maskT 1) = ((S &&& 18446744073709551615 : Nat) : Int) := and_nat S 18446744073709551615 hS (by decide)
  refine ⟨_, _, _, _, _, rfl, .inl rfl, fun _ => ⟨if_pos rfl, if_pos rfl⟩, ?_, fun h => absurd rfl h⟩
  rw [e1, e2, if_pos rfl, if_pos rfl]
  unfold checkT
  have h0 := badH_none B S 18446744073709551614 18446744073709551615 0 hB hS (by decide) (by decide +kernel) (by decide +kernel)
  have h0' : badH ((B &&& 18446744073709551614 : Nat) : Int) ((S &&& 18446744073709551615 : Nat) : Int) (restT 1) = false := h0
  rw [if_pos (by decide), if_neg (by rw [h0', badH_zero (outT 1) rfl]; decide)]
 ·have e1 : andM B (bornT 2) = ((B &&& 14 : Nat) : Int) := and_nat B 14 hB (by decide)
  have e1' : andM B1 (bornT 2) = ((B1 &&& 14 : Nat) : Int) := and_nat B1 14 hB1 (by decide)
  have e2 : andM S (maskT 2) = ((S &&& 15 : Nat) : Int) := and_nat S 15 hS (by decide)
  have e2' : andM S1 (maskT 2) = ((S1 &&& 15 : Nat) : Int) := and_nat S1 15 hS1 (by decide)
  have h0 : badH ((B &&& 14 : Nat) : Int) ((S &&& 15 : Nat) : Int) (restT 2) = false := badH_none B S 14 15 18446744073709551600 hB hS (by decide) (by decide +kernel) (by decide +kernel)
  have h0' : badH ((B1 &&& 14 : Nat) : Int) ((S1 &&& 15 : Nat) : Int) (outT 2) = false := badH_none B1 S1 14 15 18446744073709551600 hB1 hS1 (by decide) (by decide +kernel) (by decide +kernel)
  have h1 : badH ((B &&& 14 : Nat) : Int) ((S &&& 15 : Nat) : Int) (outT 2) = false := h0
  refine ⟨_, _, _, _, _, rfl, .inr (.inl rfl), fun h => absurd h (by decide), ?_, fun _ => ?_⟩
  ·rw [if_neg (by decide), if_neg (by decide), e1, e1', e2, e2']
   unfold checkT
   rw [if_pos (by decide), if_neg (by rw [h0, h0']; decide)]
  ·rw [e1, e2]
   unfold checkT
   rw [if_pos (by decide), if_neg (by rw [h0, h1]; decide)]
 ·have e1 : andM B (bornT 3) = ((B &&& 8190 : Nat) : Int) := and_nat B 8190 hB (by decide)
  have e1' : andM B1 (bornT 3) = ((B1 &&& 8190 : Nat) : Int) := and_nat B1 8190 hB1 (by decide)
  have e2 : andM S (maskT 3) = ((S &&& 8191 : Nat) : Int) := and_nat S 8191 hS (by decide)
  have e2' : andM S1 (maskT 3) = ((S1 &&& 8191 : Nat) : Int) := and_nat S1 8191 hS1 (by decide)
  have h0 : badH ((B &&& 8190 : Nat) : Int) ((S &&& 8191 : Nat) : Int) (restT 3) = false := badH_none B S 8190 8191 18446744073709543424 hB hS (by decide) (by decide +kernel) (by decide +kernel)
  have h0' : badH ((B1 &&& 8190 : Nat) : Int) ((S1 &&& 8191 : Nat) : Int) (outT 3) = false := badH_none B1 S1 8190 8191 18446744073709543424 hB1 hS1 (by decide) (by decide +kernel) (by decide +kernel)
  have h1 : badH ((B &&& 8190 : Nat) : Int) ((S &&& 8191 : Nat) : Int) (outT 3) = false := h0
  refine ⟨_, _, _, _, _, rfl, .inr (.inr rfl), fun h => absurd h (by decide), ?_, fun _ => ?_⟩
  ·rw [if_neg (by decide), if_neg (by decide), e1, e1', e2, e2']
   unfold checkT
   rw [if_pos (by decide), if_neg (by rw [h0, h0']; decide)]
  ·rw [e1, e2]
   unfold checkT
   rw [if_pos (by decide), if_neg (by rw [h0, h1]; decide)]
theorem whole_eq (K : Nat) (b0 b1 s0 s1 : Int) : honeycomblaw07_whole.f K 1 b0 b1 s0 s1 = honeycomblaw07_whole.f K 1 0 0 0 0 := by
 unfold honeycomblaw07_whole.f
 rw [if_pos rfl, if_pos rfl]
theorem whole_tab : honeycomblaw07_whole.f 150 1 0 0 0 0 = some (1, 18054054079169302, 0, 10546641918665472585, 0) := by decide +kernel
theorem whole_hex (K : Nat) (hK : 150 ≤ K) (b0 b1 s0 s1 : Int) : honeycomblaw07_whole.f K 1 b0 b1 s0 s1 = some (1, 18054054079169302, 0, 10546641918665472585, 0) :=
 (whole_eq K b0 b1 s0 s1).trans (leO_ge (g := fun k => honeycomblaw07_whole.f k 1 0 0 0 0) (fun k => honeycomblaw07_whole.mono _ _ _ _ _ k) whole_tab K hK)
theorem whole_tri (K : Nat) (L b0 b1 s0 s1 : Int) (h : L ≠ 1) : honeycomblaw07_whole.f K L b0 b1 s0 s1 = some (L, b0, b0, s0, s0) := by
 unfold honeycomblaw07_whole.f
 rw [if_neg h]
theorem whole_check : checkT 1 18054054079169302 0 10546641918665472585 0 = none := by decide +kernel
end Go.Proofs.YtaeenefdbahfoaaDoor
