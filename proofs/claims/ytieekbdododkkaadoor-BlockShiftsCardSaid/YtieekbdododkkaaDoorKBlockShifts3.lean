/- BlockShifts is true for every input, with what its row says of the package variables that it reads. -/
import Derived.Test.YtieekbdododkkaaDoorKBlockShifts1
import Derived.Test.YtieekbdododkkaaDoorKBlockShifts2
import Derived.BigRegion
import Derived.Deep.RegionLaw
import Derived.Test.YtieekbdododkkaaDoorKBlockShifts0
import Derived.Test.YtieekbdododkkaaDoorCards
namespace Go.Proofs.YtieekbdododkkaaDoor
set_option linter.unusedSimpArgs false
set_option linter.unusedVariables false
set_option maxRecDepth 100000
set_option maxHeartbeats 16000000
open Go.RowKit Go.Proofs.YtieekbdododkkaaDoorW.PrintWords Go.Proofs.YtieekbdododkkaaDoorW.PrintLast Go.Proofs.YtieekbdododkkaaDoorW.PrintMore
open H
/-- bytes, of which j are there already -/
def sum4 (f : Nat → Int) (j : Nat) : Int := (if 0 < j then f 0 else 0) + (if 1 < j then 256 * f 1 else 0) + (if 2 < j then 65536 * f 2 else 0) + (if 3 < j then 16777216 * f 3 else 0)
/-- what a row of the middle gives -/
def midB (g : Nat → Int) (k : Nat) : Int := g (k + 2) / 16 % 256
def midF (g : Nat → Int) (j : Nat) : Int := sum4 (midB g) j
theorem and255h (x : Int) (h0 : 0 ≤ x) (h1 : x < 65536) : Go.bits .and .u16 x 255 = x % 256 := by
  rw [Go.u16_and x 255 h0 h1 (by omega) (by omega), show (255 : Int).toNat = 255 from rfl, Go.nat_mask8]
  omega
theorem or_up (x y m : Int) (i : Nat) (hm : m = 2 ^ i) (hi : m ≤ 16777216) (hx : 0 ≤ x ∧ x < m) (hy : 0 ≤ y ∧ y < 256) : Go.bits .or .u32 x (y * m) = x + m * y := by
  have hpos : (0 : Int) < m := by omega
  have h1 : y * m ≤ 255 * m := Int.mul_le_mul_of_nonneg_right (by omega) (Int.le_of_lt hpos)
  have h0 : 0 ≤ y * m := Int.mul_nonneg hy.1 (Int.le_of_lt hpos)
  obtain ⟨a, rfl⟩ := Int.eq_ofNat_of_zero_le hx.1
  obtain ⟨b, rfl⟩ := Int.eq_ofNat_of_zero_le hy.1
  have e : (b : Int) * m = ((b * 2 ^ i : Nat) : Int) := by subst hm; push_cast; rfl
  have hm2 : m = ((2 ^ i : Nat) : Int) := by subst hm; push_cast; rfl
  have hx2 : a < 2 ^ i := by omega
  rw [e, Go.u32_or_nat a (b * 2 ^ i) (by omega) (by omega), Nat.or_comm, Go.nat_join i _ _ (Nat.mul_mod_left b (2 ^ i)) hx2]
  rw [Int.natCast_add, ← e, Int.mul_comm, Int.add_comm]
theorem s4_0 (f : Nat → Int) (h : 0 ≤ f 0 ∧ f 0 < 256) : Go.bits .or .u32 (sum4 f 0) (f 0) = sum4 f 1 := by
  have := or_up 0 (f 0) 1 0 rfl (by omega) (by omega) h
  rw [Int.mul_one] at this
  refine (this.trans ?_)
  simp [sum4]
theorem s4_1 (f : Nat → Int) (h0 : 0 ≤ f 0 ∧ f 0 < 256) (h : 0 ≤ f 1 ∧ f 1 < 256) : Go.bits .or .u32 (sum4 f 1) (f 1 * 256) = sum4 f 2 := by
  have e1 : sum4 f 1 = f 0 := by simp [sum4]
  have := or_up (sum4 f 1) (f 1) 256 8 rfl (by omega) (by omega) h
  refine (this.trans ?_)
  simp [sum4]
theorem s4_2 (f : Nat → Int) (h0 : 0 ≤ f 0 ∧ f 0 < 256) (h1 : 0 ≤ f 1 ∧ f 1 < 256) (h : 0 ≤ f 2 ∧ f 2 < 256) : Go.bits .or .u32 (sum4 f 2) (f 2 * 65536) = sum4 f 3 := by
  have e1 : sum4 f 2 = f 0 + 256 * f 1 := by simp [sum4]
  have := or_up (sum4 f 2) (f 2) 65536 16 rfl (by omega) (by omega) h
  refine (this.trans ?_)
  simp [sum4]
theorem s4_3 (f : Nat → Int) (h0 : 0 ≤ f 0 ∧ f 0 < 256) (h1 : 0 ≤ f 1 ∧ f 1 < 256) (h2 : 0 ≤ f 2 ∧ f 2 < 256) (h : 0 ≤ f 3 ∧ f 3 < 256) : Go.bits .or .u32 (sum4 f 3) (f 3 * 16777216) = sum4 f 4 := by
  have e1 : sum4 f 3 = f 0 + 256 * f 1 + 65536 * f 2 := by simp [sum4]
  have := or_up (sum4 f 3) (f 3) 16777216 24 rfl (by omega) (by omega) h
  refine (this.trans ?_)
  simp [sum4]
theorem mid0 (g : Nat → Int) (h : 0 ≤ midB g 0 ∧ midB g 0 < 256) : Go.bits .or .u32 (midF g 0) (g 2 / 16 % 256) = midF g 1 := s4_0 (midB g) h
theorem mid1 (g : Nat → Int) (h0 : 0 ≤ midB g 0 ∧ midB g 0 < 256) (h : 0 ≤ midB g 1 ∧ midB g 1 < 256) : Go.bits .or .u32 (midF g 1) (g 3 / 16 % 256 * 256) = midF g 2 := s4_1 (midB g) h0 h
theorem mid2 (g : Nat → Int) (h0 : 0 ≤ midB g 0 ∧ midB g 0 < 256) (h1 : 0 ≤ midB g 1 ∧ midB g 1 < 256) (h : 0 ≤ midB g 2 ∧ midB g 2 < 256) : Go.bits .or .u32 (midF g 2) (g 4 / 16 % 256 * 65536) = midF g 3 := s4_2 (midB g) h0 h1 h
theorem mid3 (g : Nat → Int) (h0 : 0 ≤ midB g 0 ∧ midB g 0 < 256) (h1 : 0 ≤ midB g 1 ∧ midB g 1 < 256) (h2 : 0 ≤ midB g 2 ∧ midB g 2 < 256) (h : 0 ≤ midB g 3 ∧ midB g 3 < 256) : Go.bits .or .u32 (midF g 3) (g 5 / 16 % 256 * 16777216) = midF g 4 := s4_3 (midB g) h0 h1 h2 h
theorem bmid_any (g : Nat → Int) (w : World) (hg : ∀ k, k < 8 → 0 ≤ g k ∧ g k < 65536) :
    Calls Tryd.prog 21 #[blkV g] w fun e w' => e = .returned (.int .u32 (midF g 4)) ∧ Below w.heap.size w w' := by
  have hb : ∀ k, k < 4 → 0 ≤ midB g k ∧ midB g k < 256 := fun k hk => by unfold midB; omega
  have a0 := and255h (g 2 / 16) (by have := hg 2 (by omega); omega) (by have := hg 2 (by omega); omega)
  have a1 := and255h (g 3 / 16) (by have := hg 3 (by omega); omega) (by have := hg 3 (by omega); omega)
  have a2 := and255h (g 4 / 16) (by have := hg 4 (by omega); omega) (by have := hg 4 (by omega); omega)
  have a3 := and255h (g 5 / 16) (by have := hg 5 (by omega); omega) (by have := hg 5 (by omega); omega)
  have b0 := hb 0 (by omega)
  have b1 := hb 1 (by omega)
  have b2 := hb 2 (by omega)
  have b3 := hb 3 (by omega)
  clear hb hg
  go_enter Tryd.func21, Tryd.ntmps21
  go_upto_region 1 with (fail)
  obtain ⟨w3, hw3⟩ : ∃ W, W = w.alloc (blkO g 52) := ⟨_, rfl⟩
  have bx : w3.heap[w.heap.size]? = some (blkO g 52) := by rw [hw3]; exact blk_new _ _
  have hB : Below w.heap.size w w3 := by rw [hw3]; exact (by with_reducible repeat (first | apply below_alloc | apply pw_below_drewN | apply below_drew | refine bset ?_ _ _ (by omega) _ | exact Below.refl _ _))
  rw [← hw3]
  clear hw3
  have XO := And.intro (blk_cell bx 2) (And.intro (blk_cell bx 3) (And.intro (blk_cell bx 4) (blk_cell bx 5)))
  simp only [List.getElem?_toArray, List.getElem?_cons_zero, List.getElem?_cons_succ] at XO
  obtain ⟨x2, x3, x4, x5⟩ := XO
  have HB := Aside0.mk hB
  clear bx hB
  go_wp2_with fail
  go_loopw [3, 5] (fun f iv wr => ∃ j : Nat, j ≤ 4 ∧ iv = .int .i64 j ∧ f = .int .u32 (midF g j) ∧ wr = w3) (fun _ iv _ => 4 - (intOf iv).toNat)
  case atStart => exact ⟨0, by omega, rfl, rfl, rfl⟩
  case round =>
    obtain ⟨j, hj, rfl, rfl, rfl⟩ := hrel
    by_cases hlt : j < 4
    · have hjj : j = 0 ∨ j = 1 ∨ j = 2 ∨ j = 3 := by omega
      rcases hjj with rfl | rfl | rfl | rfl
      · go_wp2
        go_roundw
        case rel => exact ⟨1, by omega, by go_num, by rw [mid0 g b0], trivial⟩
        case measure => simp [intOf]
      · go_wp2
        go_roundw
        case rel => exact ⟨2, by omega, by go_num, by rw [mid1 g b0 b1], trivial⟩
        case measure => simp [intOf]
      · go_wp2
        go_roundw
        case rel => exact ⟨3, by omega, by go_num, by rw [mid2 g b0 b1 b2], trivial⟩
        case measure => simp [intOf]
      · go_wp2
        go_roundw
        case rel => exact ⟨4, by omega, by go_num, by rw [mid3 g b0 b1 b2 b3], trivial⟩
        case measure => simp [intOf]
    · obtain rfl : j = 4 := by omega
      go_wp2
      go_ret
      exact ⟨rfl, HB.out⟩
namespace H
attribute [local go_sem] max2_int min2_int max_two min_two max_three min_three max_four min_four
section
open Go
variable {P : Program} {d : Nat} {xs ys : Array Value} {e t c n i : Nat} {is : List Nat} {a b : Value} {r s : Bool} {w : World}
theorem eqi_last (ha : (part e xs (i * c)).run P w = .ok a w) (hb : (part e ys (i * c)).run P w = .ok b w) (he : (Op.equalIn d e a b).run P w = .ok r w) : (Op.eqItems d e c xs ys [i]).run P w = .ok r w := by
  simp only [Op.eqItems, Sem.run_bind, ha, hb, he, Result.andThen_ok]
  cases r <;> simp
theorem eqi_cons (ha : (part e xs (i * c)).run P w = .ok a w) (hb : (part e ys (i * c)).run P w = .ok b w) (he : (Op.equalIn d e a b).run P w = .ok r w) (hr : (Op.eqItems d e c xs ys is).run P w = .ok s w) : (Op.eqItems d e c xs ys (i :: is)).run P w = .ok (r && s) w := by
  rw [Op.eqItems]
  simp only [Sem.run_bind, ha, hb, he, Result.andThen_ok]
  cases r
  · simp
  · simpa using hr
theorem eqR_of {D : TypeDesc} (hu : P.underlying t = some (.array n e)) (hd : P.underlying e = some D) (hc : P.cellsOf e = c) (hl : List.range n = is) (h : (Op.eqItems d e c xs ys is).run P w = .ok r w) : (Op.equalIn (d + 1) t (.agg xs) (.agg ys)).run P w = .ok r w := by
  obtain ⟨j, hj⟩ := info_of_underlying hd
  subst hc hl
  rw [run_equalIn_array w d xs ys hu hj]
  exact h
end
theorem eqA52 (d : Nat) (w : World) (x0 y0 : Int) (x1 y1 : Int) (x2 y2 : Int) (x3 y3 : Int) (x4 y4 : Int) (x5 y5 : Int) (x6 y6 : Int) (x7 y7 : Int) :
    (Op.equalIn (d + 2) 52 (.agg #[.int .u16 x0, .int .u16 x1, .int .u16 x2, .int .u16 x3, .int .u16 x4, .int .u16 x5, .int .u16 x6, .int .u16 x7]) (.agg #[.int .u16 y0, .int .u16 y1, .int .u16 y2, .int .u16 y3, .int .u16 y4, .int .u16 y5, .int .u16 y6, .int .u16 y7])).run Tryd.prog w = .ok (x0 == y0 && (x1 == y1 && (x2 == y2 && (x3 == y3 && (x4 == y4 && (x5 == y5 && (x6 == y6 && (x7 == y7)))))))) w := by
  refine eqR_of (c := 1) Tryd.underlying52 Tryd.underlying50 (by kernel_rfl) (by rfl) ?_
  refine eqi_cons (by go_simp; rfl) (by go_simp; rfl) (by go_simp) ?_
  refine eqi_cons (by go_simp; rfl) (by go_simp; rfl) (by go_simp) ?_
  refine eqi_cons (by go_simp; rfl) (by go_simp; rfl) (by go_simp) ?_
  refine eqi_cons (by go_simp; rfl) (by go_simp; rfl) (by go_simp) ?_
  refine eqi_cons (by go_simp; rfl) (by go_simp; rfl) (by go_simp) ?_
  refine eqi_cons (by go_simp; rfl) (by go_simp; rfl) (by go_simp) ?_
  refine eqi_cons (by go_simp; rfl) (by go_simp; rfl) (by go_simp) ?_
  exact eqi_last (by go_simp; rfl) (by go_simp; rfl) (by go_simp)
end H
namespace H
attribute [local go_sem] max2_int min2_int max_two min_two max_three min_three max_four min_four
attribute [local go_sem high] eqA52
def block_Block_Empty.f (a0_0 : Int) (a0_1 : Int) (a0_2 : Int) (a0_3 : Int) (a0_4 : Int) (a0_5 : Int) (a0_6 : Int) (a0_7 : Int) : Option (Bool) := some (a0_0 == 0 && (a0_1 == 0 && (a0_2 == 0 && (a0_3 == 0 && (a0_4 == 0 && (a0_5 == 0 && (a0_6 == 0 && (a0_7 == 0))))))))
theorem block_Block_Empty.calls (a0_0 : Int) (a0_1 : Int) (a0_2 : Int) (a0_3 : Int) (a0_4 : Int) (a0_5 : Int) (a0_6 : Int) (a0_7 : Int) (r : Bool) (w : World) (h : block_Block_Empty.f a0_0 a0_1 a0_2 a0_3 a0_4 a0_5 a0_6 a0_7 = some r) :
  Calls Tryd.prog 26 #[.agg #[.int .u16 a0_0, .int .u16 a0_1, .int .u16 a0_2, .int .u16 a0_3, .int .u16 a0_4, .int .u16 a0_5, .int .u16 a0_6, .int .u16 a0_7]] w fun e w' => e = .returned (.bool r) ∧ Below w.heap.size w w' := by
 have hu52 := Tryd.underlying52
 have HB := Aside0.mk (Below.refl w.heap.size w)
 have H : (some (a0_0 == 0 && (a0_1 == 0 && (a0_2 == 0 && (a0_3 == 0 && (a0_4 == 0 && (a0_5 == 0 && (a0_6 == 0 && (a0_7 == 0))))))))) = some r := h
 clear h
 obtain rfl := Option.some.inj H
 go_enter Tryd.func26, Tryd.ntmps26
 go_wp2_with (first | ((with_reducible refine gate_dst (N := 1) rfl ?_); refine box_event ?hg (N := 1) ?hd (cs := #[.int .u16 a0_0, .int .u16 a0_1, .int .u16 a0_2, .int .u16 a0_3, .int .u16 a0_4, .int .u16 a0_5, .int .u16 a0_6, .int .u16 a0_7]) (t := 52) ?hr ?_; (case hd => rfl); (case hg => rfl); (case hr => first | (go_simp; done) | (go_simp; rfl)); intro gb142 hg w2 hbox hb; have n0_ := Aside0.mk (below_step (by repeat (first | (with_reducible first | exact HB.out | apply ba_ | apply bn_ | apply bd_) | exact HB.out)) hb); have n1_ := Aside0.mk (hbox); have n2_ := Aside0.mk ((by rw [hg]; exact (below_size (by repeat (first | (with_reducible first | exact HB.out | apply ba_ | apply bn_ | apply bd_) | exact HB.out))) : w.heap.size ≤ gb142)); have n3_ := Aside0.mk ((by rw [hg]; exact (below_size (by repeat (first | (with_reducible first | exact HB.out | apply ba_ | apply bn_ | apply bd_) | exact HB.out))) : w.heap.size ≤ gb142)); clear HB; have HB := n0_; have BK142 := n1_; have GW142 := n2_; have GE142 := n3_; clear n0_ n1_ n2_ n3_; clear hb hbox hg; have hcz3_0 : w2.cell? ⟨gb142, 0, none⟩ = some (.int .u16 a0_0) := (blk_cell BK142.out 0).trans rfl; have hcz3_1 : w2.cell? ⟨gb142, 1, none⟩ = some (.int .u16 a0_1) := (blk_cell BK142.out 1).trans rfl; have hcz3_2 : w2.cell? ⟨gb142, 2, none⟩ = some (.int .u16 a0_2) := (blk_cell BK142.out 2).trans rfl; have hcz3_3 : w2.cell? ⟨gb142, 3, none⟩ = some (.int .u16 a0_3) := (blk_cell BK142.out 3).trans rfl; have hcz3_4 : w2.cell? ⟨gb142, 4, none⟩ = some (.int .u16 a0_4) := (blk_cell BK142.out 4).trans rfl; have hcz3_5 : w2.cell? ⟨gb142, 5, none⟩ = some (.int .u16 a0_5) := (blk_cell BK142.out 5).trans rfl; have hcz3_6 : w2.cell? ⟨gb142, 6, none⟩ = some (.int .u16 a0_6) := (blk_cell BK142.out 6).trans rfl; have hcz3_7 : w2.cell? ⟨gb142, 7, none⟩ = some (.int .u16 a0_7) := (blk_cell BK142.out 7).trans rfl; have hfz3_0 := blk_frozen BK142.out 0; have hfz3_1 := blk_frozen BK142.out 1; have hfz3_2 := blk_frozen BK142.out 2; have hfz3_3 := blk_frozen BK142.out 3; have hfz3_4 := blk_frozen BK142.out 4; have hfz3_5 := blk_frozen BK142.out 5; have hfz3_6 := blk_frozen BK142.out 6; have hfz3_7 := blk_frozen BK142.out 7))
 go_ret
 exact ⟨by first | rfl | (simp [errW_none, errW_some] <;> rfl) | (simp [*, errW_none, errW_some] <;> rfl), by repeat (first | (with_reducible first | exact HB.out | apply ba_ | apply bn_ | apply bd_ | refine below_set ?_ GE142.out) | exact HB.out)⟩
end H
theorem ofG_bd (q0 q1 q2 q3 : Int) (h0 : 0 ≤ q0 ∧ q0 < 4294967296) (h1 : 0 ≤ q1 ∧ q1 < 4294967296) (h2 : 0 ≤ q2 ∧ q2 < 4294967296) (h3 : 0 ≤ q3 ∧ q3 < 4294967296) (k : Nat) : 0 ≤ ofG q0 q1 q2 q3 k ∧ ofG q0 q1 q2 q3 k < 65536 := by
  unfold ofG ofRow
  split <;> omega
def oneG (k : Nat) : Int := if k = 0 then 1 else 0
theorem of_one : ofG 1 0 0 0 = oneG := by
  funext k
  unfold ofG ofRow oneG
  by_cases h : k < 4
  · have : k = 0 ∨ k = 1 ∨ k = 2 ∨ k = 3 := by omega
    rcases this with rfl | rfl | rfl | rfl <;> decide
  · rw [if_neg h, if_neg h, if_neg (by omega)]
    simp
theorem step_one : blkV (stepG 1 0 0 1 0 oneG) = blkV oneG := by
  have h : ∀ k : Fin 8, stepG 1 0 0 1 0 oneG k.1 = oneG k.1 := by decide +kernel
  unfold blkV
  rw [show stepG 1 0 0 1 0 oneG 0 = oneG 0 from h 0, show stepG 1 0 0 1 0 oneG 1 = oneG 1 from h 1, show stepG 1 0 0 1 0 oneG 2 = oneG 2 from h 2, show stepG 1 0 0 1 0 oneG 3 = oneG 3 from h 3, show stepG 1 0 0 1 0 oneG 4 = oneG 4 from h 4, show stepG 1 0 0 1 0 oneG 5 = oneG 5 from h 5, show stepG 1 0 0 1 0 oneG 6 = oneG 6 from h 6, show stepG 1 0 0 1 0 oneG 7 = oneG 7 from h 7]
theorem one_cells : blkV oneG = .agg #[.int .u16 1, .int .u16 0, .int .u16 0, .int .u16 0, .int .u16 0, .int .u16 0, .int .u16 0, .int .u16 0] := rfl
theorem one_eq : ∀ w, (binOp .eql 52 (.agg #[.int .u16 1, .int .u16 0, .int .u16 0, .int .u16 0, .int .u16 0, .int .u16 0, .int .u16 0, .int .u16 0]) (.agg #[.int .u16 1, .int .u16 0, .int .u16 0, .int .u16 0, .int .u16 0, .int .u16 0, .int .u16 0, .int .u16 0])).run Tryd.prog w = .ok (.bool true) w := fun w => by
  simp only [binOp]
  have h := eqA52 9998 w 1 1 0 0 0 0 0 0 0 0 0 0 0 0 0 0
  simp [Op.equal, Op.maxDepth, h]
abbrev S8 (gx : Nat) (W : World) : Prop := W.cell? ⟨gx, 0, none⟩ = some (.int .u16 1) ∧ W.cell? ⟨gx, 1, none⟩ = some (.int .u16 0) ∧ W.cell? ⟨gx, 2, none⟩ = some (.int .u16 0) ∧ W.cell? ⟨gx, 3, none⟩ = some (.int .u16 0) ∧ W.cell? ⟨gx, 4, none⟩ = some (.int .u16 0) ∧ W.cell? ⟨gx, 5, none⟩ = some (.int .u16 0) ∧ W.cell? ⟨gx, 6, none⟩ = some (.int .u16 0) ∧ W.cell? ⟨gx, 7, none⟩ = some (.int .u16 0)
abbrev oneO : Obj := .cells #[.int .u16 1, .int .u16 0, .int .u16 0, .int .u16 0, .int .u16 0, .int .u16 0, .int .u16 0, .int .u16 0] 52 (0, 0)
theorem S8.of {W : World} {gx : Nat} (h : W.heap[gx]? = some oneO) : S8 gx W := ⟨blk_cell h 0, blk_cell h 1, blk_cell h 2, blk_cell h 3, blk_cell h 4, blk_cell h 5, blk_cell h 6, blk_cell h 7⟩
theorem awk10_any (w : World) (hG : Six w) :
    Calls Tryd.prog 9 #[] w fun e w' => e = .returned (.bool true) ∧ Below w.heap.size w w' := by
  have cNew := fun W (hW : Six W) => bnew_hex 0 0 1 0 W (by decide +kernel) hW
  have cOf1 := fun W => bof_any 1 0 0 0 W (by omega) (by omega) (by omega) (by omega)
  have cOfA := fun W => bof_any 4294967295 4294967295 4294967295 4294967295 W (by omega) (by omega) (by omega) (by omega)
  rw [of_one, one_cells] at cOf1
  have cMid := fun W => bmid_any (ofG 4294967295 4294967295 4294967295 4294967295) W (fun k _ => ofG_bd _ _ _ _ (by omega) (by omega) (by omega) (by omega) k)
  have eMid : midF (ofG 4294967295 4294967295 4294967295 4294967295) 4 = 4294967295 := by decide +kernel
  rw [eMid] at cMid
  have oneB : ∀ k, k < 8 → 0 ≤ oneG k ∧ oneG k < 65536 := fun k _ => by unfold oneG; split <;> omega
  have cStep := fun gk W (h : KerAt W gk 1 0 0 1 0) => bstep_any 1 0 0 1 0 oneG gk W (by omega) oneB h
  rw [step_one, one_cells] at cStep
  have cEmp := fun W => block_Block_Empty.calls 1 0 0 0 0 0 0 0 false W (by decide)
  have cSt := fun W => bst_any oneG 0 0 W oneB
  have eSt : stB oneG 0 0 = 1 := by decide +kernel
  rw [eSt, one_cells] at cSt
  have CNEW := Aside0.mk cNew
  have COF1 := Aside0.mk cOf1
  have COFA := Aside0.mk cOfA
  have CMID := Aside0.mk cMid
  have CSTEP := Aside0.mk cStep
  have CEMP := Aside0.mk cEmp
  have CST := Aside0.mk cSt
  have heq := one_eq
  clear cNew cOf1 cOfA cMid eMid oneB cStep cEmp cSt eSt
  go_enter Tryd.func9, Tryd.ntmps9
  go_wp2_with fail
  refine (CNEW.out _ hG).mono ?_
  rintro e w2 ⟨gk, rfl, hk, hgk, hb2⟩
  have K2 := Aside0.mk hk
  have HB2 := Aside0.mk hb2
  clear hk hb2
  go_wp2_with fail
  refine (COF1.out _).mono ?_
  rintro e w3 ⟨rfl, hb3⟩
  have K3 := Aside0.mk (K2.out.below hb3)
  have HB3 := Aside0.mk (HB2.out.trans (hb3.mono HB2.out.size))
  clear hb3 K2 HB2
  go_upto_region 4 with (fail)
  obtain ⟨w4, hw4⟩ : ∃ W, W = w3.alloc oneO := ⟨_, rfl⟩
  have bx4 : w4.heap[w3.heap.size]? = some oneO := by rw [hw4]; exact blk_new _ _
  have hb4 : Below w3.heap.size w3 w4 := by rw [hw4]; exact below_alloc (Below.refl _ _) _
  rw [← hw4]
  obtain ⟨gx, hgx⟩ : ∃ g, g = w3.heap.size := ⟨_, rfl⟩
  rw [← hgx] at bx4 ⊢
  have K4 := Aside0.mk (K3.out.below hb4)
  have HB4 := Aside0.mk (HB3.out.trans (hb4.mono HB3.out.size))
  have X4 := Aside0.mk bx4
  have hS4 : S8 gx w4.drew := S8.of (blk_drew bx4)
  have X5 := Aside0.mk (blk_drew bx4)
  have K5 := Aside0.mk (K4.out.below (below_drew (Below.refl w4.heap.size w4)))
  have HB5 := Aside0.mk (below_drew HB4.out)
  clear hw4 hgx hb4 bx4 K3 HB3 K4 HB4 X4
  go_region_held3 (fun W => W.cell? ⟨gx, 0, none⟩ = some (.int .u16 1) ∧ W.cell? ⟨gx, 1, none⟩ = some (.int .u16 0) ∧ W.cell? ⟨gx, 2, none⟩ = some (.int .u16 0) ∧ W.cell? ⟨gx, 3, none⟩ = some (.int .u16 0) ∧ W.cell? ⟨gx, 4, none⟩ = some (.int .u16 0) ∧ W.cell? ⟨gx, 5, none⟩ = some (.int .u16 0) ∧ W.cell? ⟨gx, 6, none⟩ = some (.int .u16 0) ∧ W.cell? ⟨gx, 7, none⟩ = some (.int .u16 0))
    (with_reducible assumption)
    (first
      | (go_at_call 17
         with_reducible refine (COFA.out _).mono ?_
         rintro e w6 ⟨rfl, hb6⟩
         have z1 := HB5.out.size
         replace X5 := Aside0.mk (blk_below X5.out hb6)
         replace K5 := Aside0.mk (K5.out.below hb6)
         replace HB5 := Aside0.mk (HB5.out.trans (hb6.mono z1))
         have hS6 : S8 gx w6 := S8.of X5.out
         clear z1 hb6)
      | (go_at_call 21
         with_reducible refine (CMID.out _).mono ?_
         rintro e w6 ⟨rfl, hb6⟩
         have z1 := HB5.out.size
         replace X5 := Aside0.mk (blk_below X5.out hb6)
         replace K5 := Aside0.mk (K5.out.below hb6)
         replace HB5 := Aside0.mk (HB5.out.trans (hb6.mono z1))
         have hS6 : S8 gx w6 := S8.of X5.out
         clear z1 hb6)
      | (go_at_call 16
         with_reducible refine (CSTEP.out _ _ K5.out).mono ?_
         rintro e w6 ⟨rfl, hb6⟩
         have z1 := HB5.out.size
         replace X5 := Aside0.mk (blk_below X5.out hb6)
         replace K5 := Aside0.mk (K5.out.below hb6)
         replace HB5 := Aside0.mk (HB5.out.trans (hb6.mono z1))
         have hS6 : S8 gx w6 := S8.of X5.out
         clear z1 hb6)
      | (go_at_call 26
         with_reducible refine (CEMP.out _).mono ?_
         rintro e w6 ⟨rfl, hb6⟩
         have z1 := HB5.out.size
         replace X5 := Aside0.mk (blk_below X5.out hb6)
         replace K5 := Aside0.mk (K5.out.below hb6)
         replace HB5 := Aside0.mk (HB5.out.trans (hb6.mono z1))
         have hS6 : S8 gx w6 := S8.of X5.out
         clear z1 hb6)
      | (go_at_call 23
         with_reducible refine (CST.out _).mono ?_
         rintro e w6 ⟨rfl, hb6⟩
         have z1 := HB5.out.size
         replace X5 := Aside0.mk (blk_below X5.out hb6)
         replace K5 := Aside0.mk (K5.out.below hb6)
         replace HB5 := Aside0.mk (HB5.out.trans (hb6.mono z1))
         have hS6 : S8 gx w6 := S8.of X5.out
         clear z1 hb6))
  all_goals
    go_wp2
    go_ret
    exact ⟨rfl, HB5.out⟩
def updV (V : Nat → Value) (j : Nat) (v : Value) (i : Nat) : Value := if i = j then v else V i
theorem kerO_get (l b0 b1 s0 s1 : Int) (V : Nat → Value) (j : Nat) (hj : j < 2) : (#[.int .i64 l, .int .u64 b0, .int .u64 b1, .int .u64 s0, .int .u64 s1, V 0, V 1] : Array Value)[5 + j]? = some (V j) := by
  have : j = 0 ∨ j = 1 := by omega
  rcases this with rfl | rfl <;> rfl
theorem kerO_set (l b0 b1 s0 s1 : Int) (V : Nat → Value) (j : Nat) (hj : j < 2) (x v : Value) : (#[.int .i64 l, .int .u64 b0, .int .u64 b1, .int .u64 s0, .int .u64 s1, updV V j x 0, updV V j x 1] : Array Value).setIfInBounds (5 + j) v = #[.int .i64 l, .int .u64 b0, .int .u64 b1, .int .u64 s0, .int .u64 s1, updV V j v 0, updV V j v 1] := by
  have : j = 0 ∨ j = 1 := by omega
  rcases this with rfl | rfl <;> rfl
theorem updV_same (V : Nat → Value) (j : Nat) (v : Value) (h : V j = v) : updV V j v = V := by
  funext i
  unfold updV
  split
  · next e => rw [e, h]
  · rfl
theorem bnew_tri (l b0 b1 s0 s1 : Int) (w : World) (h : checkT l b0 b1 s0 s1 = none) (hl : l = 2 ∨ l = 3) (hG : Six w) :
    Calls Tryd.prog 11 #[.agg #[.int .i64 l, .int .u64 b0, .int .u64 b1, .int .u64 s0, .int .u64 s1]] w fun e w' => ∃ gk : Nat, e = .returned (.tuple #[.pointer (some ⟨gk, 0, none⟩), .nilIface]) ∧ KerAt w' gk l b0 b1 s0 s1 ∧ w.heap.size ≤ gk ∧ Below w.heap.size w w' := by
  have hc := fun W => XTCheck.calls l b0 b1 s0 s1 none W (by unfold XTCheck.f; rw [h])
  simp only [errW_none] at hc
  have HC := Aside0.mk hc
  have HG := Aside0.mk hG
  clear hc h hG
  have hbj := fun (j : Int) (hj : j = 0 ∨ j = 1) W hW => XBeside.calls l 0 0 j ((offs l j).map (sh 0 0)) none W hW (besid l j hl hj)
  simp only [errW_none] at hbj
  have CBJ := Aside0.mk hbj
  have hne1 : (l == 1) = false := by simp; omega
  clear hbj
  go_enter Tryd.func11, Tryd.ntmps11
  go_wp2_with fail
  obtain ⟨w1, hw1⟩ : ∃ W, W = w.alloc (.cells #[.int .i64 l, .int .u64 b0, .int .u64 b1, .int .u64 s0, .int .u64 s1] 32 (0, 0)) := ⟨_, rfl⟩
  have bt : w1.heap[w.heap.size]? = some (.cells #[.int .i64 l, .int .u64 b0, .int .u64 b1, .int .u64 s0, .int .u64 s1] 32 (0, 0)) := by rw [hw1]; exact blk_new _ _
  have hB : Below w.heap.size w w1 := by rw [hw1]; exact (by with_reducible repeat (first | apply below_alloc | apply pw_below_drewN | apply below_drew | refine bset ?_ _ _ (by omega) _ | exact Below.refl _ _))
  rw [← hw1]
  obtain ⟨g1, hg1⟩ : ∃ g, g = w.heap.size := ⟨_, rfl⟩
  rw [← hg1] at bt ⊢
  have l1 : w.heap.size ≤ g1 := by omega
  clear hw1 hg1
  refine (HC.out _).mono ?_
  rintro e w2 ⟨rfl, hb⟩
  have bt2 := blk_below bt hb
  have hB2 := hB.trans (hb.mono hB.size)
  clear bt hB hb
  have t0 := blk_cell bt2 0
  have t1 := blk_cell bt2 1
  have t2 := blk_cell bt2 2
  have t3 := blk_cell bt2 3
  have t4 := blk_cell bt2 4
  simp only [List.getElem?_toArray, List.getElem?_cons_zero, List.getElem?_cons_succ] at t0 t1 t2 t3 t4
  go_upto_region 5 with (fail)
  obtain ⟨w3, hw3⟩ : ∃ W, W = w2.alloc (kerO l b0 b1 s0 s1 (.slice none 0 0) (.slice none 0 0)) := ⟨_, rfl⟩
  have bk3 : w3.heap[w2.heap.size]? = some (kerO l b0 b1 s0 s1 (.slice none 0 0) (.slice none 0 0)) := by rw [hw3]; exact blk_new _ _
  have bt3 : w3.heap[g1]? = some (.cells #[.int .i64 l, .int .u64 b0, .int .u64 b1, .int .u64 s0, .int .u64 s1] 32 (0, 0)) := by rw [hw3]; exact blk_alloc bt2 _
  have hB3 : Below w.heap.size w w3 := by rw [hw3]; exact below_alloc hB2 _
  have hz3 : w2.heap.size < w3.heap.size := by rw [hw3, World.size_alloc]; omega
  rw [← hw3]
  obtain ⟨g5, hg5⟩ : ∃ g, g = w2.heap.size := ⟨_, rfl⟩
  have l5 : w.heap.size ≤ g5 := by have := hB2.size; omega
  have n15 : g1 ≠ g5 := by have := blk_lt bt2; omega
  rw [← hg5] at bk3 hz3 ⊢
  clear t0 t1 t2 t3 t4 hw3 hg5 bt2 hB2
  have t0 := blk_cell bt3 0
  simp only [List.getElem?_toArray, List.getElem?_cons_zero, List.getElem?_cons_succ] at t0
  go_wp2_with fail
  go_loopw [49] (fun jv wr => ∃ (j : Nat) (V : Nat → Value), j ≤ 2 ∧ jv = .int .i64 j ∧ wr.heap[g1]? = some (.cells #[.int .i64 l, .int .u64 b0, .int .u64 b1, .int .u64 s0, .int .u64 s1] 32 (0, 0)) ∧ wr.heap[g5]? = some (kerO l b0 b1 s0 s1 (V 0) (V 1)) ∧ (∀ i, j ≤ i → V i = .slice none 0 0) ∧ (∀ i, i < 2 → Kd.R k99 99 wr w.heap.size (fun k => k ≠ g5) (V i) (if i < j then nearK l i else [])) ∧ Below w.heap.size w wr) (fun jv _ => 2 - (intOf jv).toNat)
  case atStart => exact ⟨0, fun _ => .slice none 0 0, by omega, rfl, bt3, bk3, fun _ _ => rfl, fun _ _ => by rw [if_neg (Nat.not_lt_zero _)]; exact Kd.R_nil _ _ _ _ _, hB3⟩
  case round =>
    obtain ⟨j, V, hj, rfl, bt, bk, hV, hRs, hB⟩ := hrel
    clear t0 bt3 bk3 hB3 hz3
    by_cases hj2 : j < 2
    · have hVj := hV j (Nat.le_refl j)
      have t0 := blk_cell bt 0
      simp only [List.getElem?_toArray, List.getElem?_cons_zero, List.getElem?_cons_succ] at t0
      have hkl := blk_lt bk
      have htl := blk_lt bt
      have hBz := hB.size
      have BT := Aside0.mk bt
      have BK := Aside0.mk bk
      have HB := Aside0.mk hB
      have RS := Aside0.mk hRs
      have HV := Aside0.mk hV
      have HVJ := Aside0.mk hVj
      clear bt bk hB hRs hV hVj
      go_wp2_with fail
      refine (CBJ.out j (by omega) _ (HG.out.below HB.out)).mono ?_
      rintro e w6 ⟨vb, rfl, hRb, hb6⟩
      obtain ⟨A, cA, rfl, hlA, _⟩ := Kd.R_reads hRb
      obtain ⟨n6, hn6⟩ : ∃ n, n = w6.heap.size := ⟨_, rfl⟩
      have hz6 := hb6.size
      have RL := Aside0.mk (Kd.R_mono (ok' := fun k => k < n6 ∧ k ≠ g5) (Kd.R_bound hRb) (fun k hk => ⟨by have := hk.2.2.1; omega, by have := hk.2.1; omega⟩))
      have RS6 := Aside0.mk (show ∀ i, i < 2 → Kd.R k99 99 w6 w.heap.size (fun k => k < n6 ∧ k ≠ g5) (V i) (if i < j then nearK l i else []) from fun i hi => Kd.R_mono (ok' := fun k => k < n6 ∧ k ≠ g5) (Kd.R_bound (Kd.R_below (RS.out i hi) hb6)) (fun k hk => ⟨by have := hk.2.2.1; omega, hk.1⟩))
      have BT6 := Aside0.mk (blk_below BT.out hb6)
      have BK6 := Aside0.mk (blk_below BK.out hb6)
      have HB6 := Aside0.mk (HB.out.trans (hb6.mono hBz))
      have hwz : w.heap.size ≤ n6 := by omega
      have hg16 : g1 < n6 := by omega
      have hg56 : g5 < n6 := by omega
      have hn6' : n6 ≤ w6.heap.size := by omega
      obtain ⟨nb, hnb⟩ : ∃ n, n = wr.heap.size := ⟨_, rfl⟩
      rw [← hnb] at RL
      clear t0 hRb hb6 BT BK HB RS hn6 hkl htl hBz hz6 hnb
      obtain ⟨LL, hLL⟩ : ∃ LL, LL = (offs l j).map (sh 0 0) := ⟨_, rfl⟩
      have hnear : ∀ k, (hk : k < LL.length) → (nearK l j).take (k + 1) = (nearK l j).take k ++ [⟨(LL[k]).f0.f0, (LL[k]).f0.f1, (LL[k]).f1, 1⟩] := by
        intro k hk
        have hk' : k < (offs l j).length := by rw [hLL, List.length_map] at hk; exact hk
        have e : LL[k] = (offs l j)[k] := by
          simp only [hLL, List.getElem_map]
          exact sh_00 _
        rw [e]
        unfold nearK
        rw [if_neg (by omega)]
        exact take_map_snoc _ _ k hk'
      have hnl : (nearK l j).length = LL.length := by
        unfold nearK
        rw [if_neg (by omega), hLL, List.length_map, List.length_map]
      have hLn : LL.length ≤ 12 := by rw [← hnl]; exact (nearK_ok l j (by omega) (by omega)).1
      have HNEAR := Aside0.mk hnear
      have HNL := Aside0.mk hnl
      rw [← hLL] at RL ⊢
      clear hLL hnear hnl
      obtain ⟨NK, hNK⟩ : ∃ NK, NK = nearK l j := ⟨_, rfl⟩
      rw [← hNK] at HNEAR HNL
      have HNK := Aside0.mk hNK
      clear hNK
      go_wp2_with fail
      go_loopw [62] (fun kv ws => ∃ (k : Nat) (v : Value), k ≤ LL.length ∧ kv = .int .i64 k ∧ ws.heap[g1]? = some (.cells #[.int .i64 l, .int .u64 b0, .int .u64 b1, .int .u64 s0, .int .u64 s1] 32 (0, 0)) ∧ ws.heap[g5]? = some (kerO l b0 b1 s0 s1 (updV V j v 0) (updV V j v 1)) ∧ Kd.R k99 99 ws n6 (fun k => k ≠ g5) v (NK.take k) ∧ (∀ i, i < 2 → Kd.R k99 99 ws w.heap.size (fun k => k < n6 ∧ k ≠ g5) (V i) (if i < j then nearK l i else [])) ∧ Kd.R k47 47 ws nb (fun k => k < n6 ∧ k ≠ g5) (.slice A LL.length cA) LL ∧ Below w.heap.size w ws ∧ n6 ≤ ws.heap.size) (fun kv _ => LL.length - (intOf kv).toNat)
      case atStart => exact ⟨0, .slice none 0 0, by omega, rfl, BT6.out, by rw [updV_same V j _ HVJ.out]; exact BK6.out, Kd.R_nil _ _ _ _ _, RS6.out, RL.out, HB6.out, hn6'⟩
      case round =>
        obtain ⟨k, v, hk, rfl, bt, bk, hR, hRo, hRl, hB, hz⟩ := hrel
        have BT := Aside0.mk bt
        have BK := Aside0.mk bk
        have RR := Aside0.mk hR
        have RO := Aside0.mk hRo
        have RLL := Aside0.mk hRl
        have HB := Aside0.mk hB
        have hBz := hB.size
        clear BT6 BK6 RS6 RL HB6 bt bk hR hRo hRl hB hn6'
        by_cases hk6 : k < LL.length
        · obtain ⟨_, _, hC⟩ := Kd.R_reads' RLL.out
          obtain ⟨ad, hAd, a0, a1, a2⟩ := at_T47 hC k (by omega) (by omega)
          rw [Int.toNat_natCast] at a0 a1 a2
          have hx : rd_T47 LL k = LL[k] := by simp [rd_T47, hk6]
          have hnx := HNEAR.out k hk6
          rw [hx] at a0 a1 a2
          obtain ⟨p, hp⟩ : ∃ p, p = LL[k] := ⟨_, rfl⟩
          rw [← hp] at a0 a1 a2 hnx
          have HNX := Aside0.mk hnx
          have hlen : (NK.take k).length ≤ 12 := by rw [List.length_take]; omega
          clear hC hx hp hnx
          rw [hAd] at RLL
          subst hAd
          go_upto_region 19 with (fail)
          obtain ⟨w7, hw7⟩ : ∃ W, W = wr.alloc (.cells #[.int .i64 p.f0.f0, .int .i64 p.f0.f1, .int .i64 p.f1] 47 (0, 0)) := ⟨_, rfl⟩
          have bp7 : w7.heap[wr.heap.size]? = some (.cells #[.int .i64 p.f0.f0, .int .i64 p.f0.f1, .int .i64 p.f1] 47 (0, 0)) := by rw [hw7]; exact blk_new _ _
          have hb7 : Below wr.heap.size wr w7 := by rw [hw7]; exact below_alloc (Below.refl _ _) _
          rw [← hw7]
          obtain ⟨g12, hg12⟩ : ∃ g, g = wr.heap.size := ⟨_, rfl⟩
          rw [← hg12] at bp7 ⊢
          have BT7 := Aside0.mk (blk_below BT.out hb7)
          have BK7 := Aside0.mk (blk_below BK.out hb7)
          have RR7 := Aside0.mk (Kd.R_below RR.out hb7)
          have RO7 := Aside0.mk (show ∀ i, i < 2 → _ from fun i hi => Kd.R_below (RO.out i hi) hb7)
          have RL7 := Aside0.mk (Kd.R_below RLL.out hb7)
          have HB7 := Aside0.mk (HB.out.trans (hb7.mono hBz))
          have hz7 : n6 ≤ w7.drew.heap.size := by have := hb7.size; show n6 ≤ w7.heap.size; omega
          have e5 := kerO_get l b0 b1 s0 s1 (updV V j v) j hj2
          have hvj : updV V j v j = v := by unfold updV; rw [if_pos rfl]
          rw [hvj] at e5
          have n5 := (blk_cell (blk_drew BK7.out) (5 + j)).trans e5
          have n5' := (blk_cell BK7.out (5 + j)).trans e5
          have n5'' := (blk_cell (blk_alloc BK7.out (.cells #[.int .i64 p.f0.f0, .int .i64 p.f0.f1, .int .i64 p.f1, .int .i64 1] 99 (0, 0))) (5 + j)).trans e5
          have p0 := blk_cell (blk_drew bp7) 0
          have p1 := blk_cell (blk_drew bp7) 1
          have p2 := blk_cell (blk_drew bp7) 2
          have p0' := blk_cell bp7 0
          have p1' := blk_cell bp7 1
          have p2' := blk_cell bp7 2
          simp only [List.getElem?_toArray, List.getElem?_cons_zero, List.getElem?_cons_succ] at p0 p1 p2 p0' p1' p2'
          have E5 := Aside0.mk e5
          clear hw7 hg12 hb7 BT BK RR RO RLL HB bp7 a0 a1 a2 e5 hvj
          go_region_law (first
            | (refine Kd.R_append_step k99 (w0 := w7.drew) (W := w7.drew) n6 rfl (.tmp 73) (.tmp 83) 92 99 (.agg #[.int .i64 0, .int .i64 0, .int .i64 0, .int .i64 0]) 32 rfl Tryd.underlying92 info99 rfl (by decide) (by decide) v (NK.take k) ⟨p.f0.f0, p.f0.f1, p.f1, 1⟩ [.int .i64 p.f0.f0, .int .i64 p.f0.f1, .int .i64 p.f1, .int .i64 1] (fun k => k ≠ g5) (fun _ => False) rfl rfl (k99_mkM _ _ _ _) (fun _ h => h.elim) (fun j hj => by have := hz7; omega) (Kd.R_drew RR7.out) (Below.refl _ _) hz7 (by omega) ?_
               intro v8 w8 hr8 hb8 hg8 hat8
               obtain ⟨A8, c8, e8, hl8, _⟩ := Kd.R_reads hr8
               generalize List.length _ = n8 at e8
               subst e8
               have bk8 := (hb8.block g5 hg56).trans (blk_drew BK7.out)
               have BT8 := Aside0.mk ((hb8.block g1 hg16).trans (blk_drew BT7.out))
               have RO8 := Aside0.mk (show ∀ i, i < 2 → _ from fun i hi => Kd.R_step (Kd.R_drew (RO7.out i hi)) (fun k hk _ => hb8.block k hk.1))
               have RL8 := Aside0.mk (Kd.R_step (Kd.R_drew RL7.out) (fun k hk _ => hb8.block k hk.1))
               have HB8 := Aside0.mk ((below_drew HB7.out).trans (hb8.mono hwz))
               have hz8 : n6 ≤ w8.heap.size := Nat.le_trans hz7 hb8.size
               have m5 := (blk_cell bk8 (5 + j)).trans E5.out
               have mf := blk_frozen bk8
               have BK8 := Aside0.mk bk8
               have RR8 := Aside0.mk hr8
               clear bk8 hr8 hb8 hg8 hat8 n5 n5' n5'' p0 p1 p2 p0' p1' p2'))
          all_goals
            clear m5 mf
            go_wp2
            go_roundw
            case rel => exact ⟨k + 1, _, by omega, by go_num, blk_far BT8.out (p := ⟨g5, 5 + j, none⟩) n15 _, blk_put BK8.out (5 + j) _ (kerO_set l b0 b1 s0 s1 V j hj2 v _), by rw [HNX.out]; exact Kd.R_far RR8.out (p := ⟨g5, 5 + j, none⟩) (fun _ h => h) _, fun i hi => Kd.R_far (RO8.out i hi) (p := ⟨g5, 5 + j, none⟩) (fun _ h => h.2) _, Kd.R_far RL8.out (p := ⟨g5, 5 + j, none⟩) (fun _ h => h.2) _, Below.setCell (p := ⟨g5, 5 + j, none⟩) HB8.out l5 _, Nat.le_trans hz8 (Below.setCell (p := ⟨g5, 5 + j, none⟩) (Below.refl g5 w8) (Nat.le_refl _) _).size⟩
            case measure => simp [intOf]; omega
        · obtain rfl : k = LL.length := by omega
          have RR2 := RR.out
          rw [← HNL.out, List.take_length] at RR2
          have RN := Aside0.mk (show ∀ i, i < 2 → Kd.R k99 99 wr w.heap.size (fun k => k ≠ g5) (updV V j v i) (if i < j + 1 then nearK l i else []) from fun i hi => by
            by_cases e : i = j
            · subst e
              unfold updV
              rw [if_pos rfl, if_pos (by omega), ← HNK.out]
              exact Kd.R_lower RR2 hwz
            · have h := Kd.R_mono (ok' := fun k => k ≠ g5) (RO.out i hi) (fun _ h => h.2)
              unfold updV
              rw [if_neg e]
              by_cases e2 : i < j
              · rw [if_pos e2] at h
                rw [if_pos (by omega)]
                exact h
              · rw [if_neg e2] at h
                rw [if_neg (by omega)]
                exact h)
          have VN := Aside0.mk (show ∀ i, j + 1 ≤ i → updV V j v i = .slice none 0 0 from fun i hi => by
            unfold updV
            rw [if_neg (by omega)]
            exact HV.out i (by omega))
          clear RR2 RR RO RLL
          go_wp2
          go_roundw
          case rel => exact ⟨j + 1, updV V j v, by omega, by go_num, BT.out, BK.out, VN.out, RN.out, HB.out⟩
          case measure => simp [intOf]; omega
    · obtain rfl : j = 2 := by omega
      have BK := Aside0.mk bk
      have HB := Aside0.mk hB
      have R0 := Aside0.mk (hRs 0 (by omega))
      have R1 := Aside0.mk (hRs 1 (by omega))
      clear bt bk hV hRs hB
      go_wp2
      go_ret2
      have r0 := R0.out
      have r1 := R1.out
      rw [if_pos (by omega)] at r0 r1
      obtain ⟨A0, c0, e0, _, hC0⟩ := Kd.R_reads r0
      obtain ⟨A1, c1, e1, _, hC1⟩ := Kd.R_reads r1
      have bk := BK.out
      rw [e0, e1] at bk
      exact ⟨g5, rfl, ⟨A0, c0, A1, c1, bk, hC0, hC1⟩, l5, HB.out⟩
theorem bnew_any (l b0 b1 s0 s1 : Int) (w : World) (h : checkT l b0 b1 s0 s1 = none) (hl : 1 ≤ l ∧ l ≤ 3) (hG : Six w) :
    Calls Tryd.prog 11 #[.agg #[.int .i64 l, .int .u64 b0, .int .u64 b1, .int .u64 s0, .int .u64 s1]] w fun e w' => ∃ gk : Nat, e = .returned (.tuple #[.pointer (some ⟨gk, 0, none⟩), .nilIface]) ∧ KerAt w' gk l b0 b1 s0 s1 ∧ w.heap.size ≤ gk ∧ Below w.heap.size w w' := by
  by_cases h1 : l = 1
  · subst h1
    exact bnew_hex b0 b1 s0 s1 w h hG
  · exact bnew_tri l b0 b1 s0 s1 w h (by omega) hG
def bi (b : Bool) : Int := if b = true then 1 else 0
theorem rowS_low (q : Nat → Bool) (n : Nat) : rowS q (n + 1) = bi (q 0) + 2 * rowS (fun i => q (i + 1)) n := by
  induction n with
  | zero => simp [rowS, bi]
  | succ n ih =>
    rw [rowS, ih]
    rw [show rowS (fun i => q (i + 1)) (n + 1) = rowS (fun i => q (i + 1)) n + if q (n + 1) = true then 2 ^ n else 0 from rfl]
    have : (2 : Int) ^ (n + 1) = 2 ^ n * 2 := by rw [Int.pow_succ]
    split <;> omega
theorem bi_bd (b : Bool) : 0 ≤ bi b ∧ bi b ≤ 1 := by unfold bi; split <;> omega
theorem rowS_div (m : Nat) : ∀ (q : Nat → Bool) (n : Nat), rowS q (n + m) / 2 ^ m = rowS (fun i => q (i + m)) n := by
  induction m with
  | zero => intro q n; simp
  | succ m ih =>
    intro q n
    rw [← Nat.add_assoc, rowS_low, Int.pow_succ, Int.mul_comm (2 ^ m) 2, ← Int.ediv_ediv_of_nonneg (by omega)]
    have hb := bi_bd (q 0)
    rw [show (bi (q 0) + 2 * rowS (fun i => q (i + 1)) (n + m)) / 2 = rowS (fun i => q (i + 1)) (n + m) by omega, ih]
    congr 1
theorem rowS_two (q : Nat → Bool) (n : Nat) : rowS q (n + 2) % 4 = bi (q 0) + 2 * bi (q 1) := by
  rw [rowS_low, rowS_low]
  have h0 := bi_bd (q 0)
  have h1 := bi_bd (q 1)
  simp only [Nat.zero_add]
  omega
theorem stB_step (l b0 b1 s0 s1 : Int) (g : Nat → Int) (a b : Nat) (ha : a < 8) (hb : b < 8) : stB (stepG l b0 b1 s0 s1 g) (a : Int) (b : Int) = bi (bitQ l b0 b1 s0 s1 g b (2 * a)) + 2 * bi (bitQ l b0 b1 s0 s1 g b (2 * a + 1)) := by
  unfold stB
  rw [if_neg (by omega), show ((b : Nat) : Int).toNat = b from Int.toNat_natCast b, show (2 * (a : Int)).toNat = 2 * a by omega]
  unfold stepG
  rw [show (16 : Nat) = (14 - 2 * a + 2) + 2 * a by omega, rowS_div (2 * a), rowS_two]
  simp only [Nat.zero_add, Nat.add_comm 1 (2 * a)]
theorem sumP_congr (g g' : Nat → Int) (a b a' b' : Int) (L : List PT) (h : ∀ p ∈ L, stB g (a + p.f0) (b + p.f1) = stB g' (a' + p.f0) (b' + p.f1)) : sumP g a b L = sumP g' a' b' L := by
  unfold sumP
  generalize (0 : Int) = n
  induction L generalizing n with
  | nil => rfl
  | cons p L ih =>
    simp only [List.foldl_cons]
    rw [show stepP g a b n p = stepP g' a' b' n p by unfold stepP; rw [h p List.mem_cons_self]]
    exact ih (fun x hx => h x (List.mem_cons_of_mem _ hx)) _
theorem bitQ_congr (l b0 b1 s0 s1 : Int) (hl : 1 ≤ l ∧ l ≤ 3) (g g' : Nat → Int) (b b' a a' h : Nat) (hh : h < 2) (hs : ∀ dx dy : Int, -1 ≤ dx → dx ≤ 1 → -1 ≤ dy → dy ≤ 1 → stB g ((a : Int) + dx) ((b : Int) + dy) = stB g' ((a' : Int) + dx) ((b' : Int) + dy)) : bitQ l b0 b1 s0 s1 g b (2 * a + h) = bitQ l b0 b1 s0 s1 g' b' (2 * a' + h) := by
  unfold bitQ
  rw [show (2 * a + h) % 2 = h by omega, show (2 * a + h) / 2 = a by omega, show (2 * a' + h) % 2 = h by omega, show (2 * a' + h) / 2 = a' by omega]
  have h0 := hs 0 0 (by omega) (by omega) (by omega) (by omega)
  simp only [Int.add_zero] at h0
  rw [h0, sumP_congr g g' (a : Int) (b : Int) (a' : Int) (b' : Int) (nearK l (h : Int)) (fun p hp => by
    obtain ⟨⟨h1, h2⟩, ⟨h3, h4⟩, _⟩ := (nearK_ok l (h : Int) hl (by omega)).2 p hp
    exact hs _ _ h1 h2 h3 h4)]
/-- which of four leaves has a point -/
def lfQ (q0 q1 q2 q3 : Int) (a b : Nat) : Int := if b < 4 then (if a < 4 then q0 else q1) else (if a < 4 then q2 else q3)
theorem stB_of (q0 q1 q2 q3 : Int) (h0 : 0 ≤ q0) (h1 : 0 ≤ q1) (h2 : 0 ≤ q2) (h3 : 0 ≤ q3) (a b : Nat) (ha : a < 8) (hb : b < 8) : stB (ofG q0 q1 q2 q3) (a : Int) (b : Int) = lfQ q0 q1 q2 q3 a b / 2 ^ (8 * (b % 4) + 2 * (a % 4)) % 4 := by
  unfold stB
  rw [if_neg (by omega), show ((b : Nat) : Int).toNat = b from Int.toNat_natCast b, show (2 * (a : Int)).toNat = 2 * a by omega]
  unfold ofG ofRow lfQ
  obtain ⟨q, hq⟩ : ∃ q, q = (if b < 4 then q0 else q2) := ⟨_, rfl⟩
  obtain ⟨q', hq'⟩ : ∃ q, q = (if b < 4 then q1 else q3) := ⟨_, rfl⟩
  rw [← hq, ← hq']
  have hr : (if b < 4 then if a < 4 then q0 else q1 else if a < 4 then q2 else q3) = if a < 4 then q else q' := by
    rw [hq, hq']
    split <;> split <;> rfl
  rw [hr]
  have p0 : 0 ≤ q := by rw [hq]; split <;> omega
  have p1 : 0 ≤ q' := by rw [hq']; split <;> omega
  clear hr hq hq' h0 h1 h2 h3
  rw [Int.pow_add]
  obtain ⟨c, hc⟩ : ∃ c : Int, c = 2 ^ (8 * (b % 4)) := ⟨_, rfl⟩
  have hcp : 0 < c := by rw [hc]; exact Int.pow_pos (by decide)
  rw [← hc]
  have e0 : ∀ x : Int, x / (c * 2 ^ (2 * (a % 4))) = x / c / 2 ^ (2 * (a % 4)) := fun x => by rw [Int.ediv_ediv_of_nonneg (Int.le_of_lt hcp)]
  have n0 := Int.ediv_nonneg p0 (Int.le_of_lt hcp)
  have n1 := Int.ediv_nonneg p1 (Int.le_of_lt hcp)
  have hc8 : a = 0 ∨ a = 1 ∨ a = 2 ∨ a = 3 ∨ a = 4 ∨ a = 5 ∨ a = 6 ∨ a = 7 := by omega
  rcases hc8 with rfl | rfl | rfl | rfl | rfl | rfl | rfl | rfl
  all_goals
    simp only [show (0 : Nat) < 4 from by decide, show (1 : Nat) < 4 from by decide, show (2 : Nat) < 4 from by decide, show (3 : Nat) < 4 from by decide, show ¬ (4 : Nat) < 4 from by decide, show ¬ (5 : Nat) < 4 from by decide, show ¬ (6 : Nat) < 4 from by decide, show ¬ (7 : Nat) < 4 from by decide, ↓reduceIte, e0]
    generalize q / c = x at *
    generalize q' / c = y at *
    simp only [Nat.reduceMod, Nat.reduceMul, Int.reducePow]
    omega
/-- a table's number, of those that may be -/
def andM (x m : Int) : Int := Go.bits .and .u64 x m
theorem some5_2 (l b0 b1 s0 s1 : Int) (w : World) (ht : l % 256 % 3 = 1) :
    Calls Tryd.prog 10 #[.agg #[.int .i64 l, .int .u64 b0, .int .u64 b1, .int .u64 s0, .int .u64 s1]] w fun e w' => e = .returned (.agg #[.int .i64 (2), .int .u64 (andM b0 14), .int .u64 (andM b1 14), .int .u64 (andM s0 15), .int .u64 (andM s1 15)]) ∧ Below w.heap.size w w' := by
  have ho := fun W => honeycomblaw05_Own.calls l b0 b1 s0 s1 l b0 b1 s0 s1 W rfl
  have hand : Go.bits .and .i64 l 255 = l % 256 := by rw [and_255]
  have hmod : (l % 256).tmod 3 = 1 := by rw [Int.tmod_eq_emod_of_nonneg (by omega), ht]
  have hnot : Go.bits .andNot .u64 15 1 = 14 := by decide
  go_enter Tryd.func10, Tryd.ntmps10
  go_upto_region 1 with (fail)
  obtain ⟨w1, hw1⟩ : ∃ w1, w1 = (w.alloc (.cells #[.int .i64 l, .int .u64 b0, .int .u64 b1, .int .u64 s0, .int .u64 s1] 25)).alloc (.cells #[.int .i64 0, .int .u64 0, .int .u64 0, .int .u64 0, .int .u64 0] 32) := ⟨_, rfl⟩
  have hsz1 : (w.alloc (.cells #[.int .i64 l, .int .u64 b0, .int .u64 b1, .int .u64 s0, .int .u64 s1] 25)).heap.size = w.heap.size + 1 := by simp
  have hbx : w1.heap[w.heap.size]? = some (.cells #[.int .i64 l, .int .u64 b0, .int .u64 b1, .int .u64 s0, .int .u64 s1] 25 (0, 0)) := by
    rw [hw1]
    exact blk_alloc (blk_new w _) _
  have hbr : w1.heap[w.heap.size + 1]? = some (.cells #[.int .i64 0, .int .u64 0, .int .u64 0, .int .u64 0, .int .u64 0] 32 (0, 0)) := by
    rw [hw1, ← hsz1]
    exact blk_new _ _
  have hB1 : Below w.heap.size w w1 := by
    rw [hw1]
    exact below_alloc (below_alloc (Below.refl _ _) _) _
  rw [← hw1]
  clear hw1 hsz1
  have x0 := blk_cell hbx 0
  have x1 := blk_cell hbx 1
  have x2 := blk_cell hbx 2
  have x3 := blk_cell hbx 3
  have x4 := blk_cell hbx 4
  simp at x0 x1 x2 x3 x4
  have BX := Aside0.mk hbx
  have BR := Aside0.mk hbr
  have HB1 := Aside0.mk hB1
  have hz1 := blk_lt hbr
  clear hbx hbr hB1
  go_wp2_with fail
  refine (ho _).mono ?_
  rintro e w2 ⟨rfl, hb⟩
  have hz2 := hb.size
  have BX2 := Aside0.mk (blk_below BX.out hb)
  have BR2 := Aside0.mk (blk_below BR.out hb)
  have HB2 := Aside0.mk (HB1.out.trans (hb.mono (by omega)))
  clear hb x0 x1 x2 x3 x4
  go_upto_region 2 with (fail)
  obtain ⟨w3, hw3⟩ : ∃ w3, w3 = w2.alloc (.cells #[.int .i64 l, .int .u64 b0, .int .u64 b1, .int .u64 s0, .int .u64 s1] 32) := ⟨_, rfl⟩
  have hbt : w3.heap[w2.heap.size]? = some (.cells #[.int .i64 l, .int .u64 b0, .int .u64 b1, .int .u64 s0, .int .u64 s1] 32 (0, 0)) := by
    rw [hw3]
    exact blk_new _ _
  have BX3 := Aside0.mk (blk_alloc BX2.out (.cells #[.int .i64 l, .int .u64 b0, .int .u64 b1, .int .u64 s0, .int .u64 s1] 32))
  have BR3 := Aside0.mk (blk_alloc BR2.out (.cells #[.int .i64 l, .int .u64 b0, .int .u64 b1, .int .u64 s0, .int .u64 s1] 32))
  have HB3 := Aside0.mk (below_alloc HB2.out (.cells #[.int .i64 l, .int .u64 b0, .int .u64 b1, .int .u64 s0, .int .u64 s1] 32))
  rw [← hw3] at BX3 BR3 HB3
  rw [← hw3]
  have hz3 := blk_lt hbt
  clear hw3
  have x0 := blk_cell BX3.out 0
  have t0 := blk_cell hbt 0
  have tf := blk_frozen hbt
  simp at x0 t0
  have BT3 := Aside0.mk hbt
  have hne : ¬ w.heap.size = w2.heap.size := by omega
  clear hbt
  go_wp2_with fail
  obtain ⟨w4, hw4⟩ : ∃ w4, w4 = (w3.setCell ⟨w2.heap.size, 0, none⟩ (.int .i64 2)).alloc (.cells #[.int .u64 0, .int .u64 18446744073709551615, .int .u64 15, .int .u64 8191] 22) := ⟨_, rfl⟩
  have BT4 := Aside0.mk (blk_alloc (blk_put BT3.out 0 (.int .i64 2) rfl) (.cells #[.int .u64 0, .int .u64 18446744073709551615, .int .u64 15, .int .u64 8191] 22))
  have BR4 := Aside0.mk (blk_alloc (blk_far BR3.out (p := ⟨w2.heap.size, 0, none⟩) (by show ¬ w.heap.size + 1 = w2.heap.size; omega) (.int .i64 2)) (.cells #[.int .u64 0, .int .u64 18446744073709551615, .int .u64 15, .int .u64 8191] 22))
  have HB4 := Aside0.mk (below_alloc (Below.setCell (p := ⟨w2.heap.size, 0, none⟩) HB3.out (by show w.heap.size ≤ w2.heap.size; omega) (.int .i64 2)) (.cells #[.int .u64 0, .int .u64 18446744073709551615, .int .u64 15, .int .u64 8191] 22))
  rw [← hw4] at BT4 BR4 HB4
  rw [← hw4]
  have hz4 := blk_lt BT4.out
  clear hw4 x0 t0 tf
  go_loopw [19] (fun i wr => ∃ (j : Nat) (B0 B1 S0 S1 : Int), j ≤ 2 ∧ i = .int .i64 j ∧ B0 = (if 0 < j then andM b0 14 else b0) ∧ B1 = (if 1 < j then andM b1 14 else b1) ∧ S0 = (if 0 < j then andM s0 15 else s0) ∧ S1 = (if 1 < j then andM s1 15 else s1) ∧ wr.heap[w2.heap.size]? = some (.cells #[.int .i64 2, .int .u64 B0, .int .u64 B1, .int .u64 S0, .int .u64 S1] 32 (0, 0)) ∧ Below w2.heap.size w4 wr) (fun i _ => 2 - (intOf i).toNat)
  case atStart => exact ⟨0, b0, b1, s0, s1, by omega, rfl, rfl, rfl, rfl, rfl, BT4.out, Below.refl _ _⟩
  case round =>
    obtain ⟨j, B0, B1, S0, S1, hj, rfl, e0, e1, e2, e3, hbt, hb⟩ := hrel
    have HBR := Aside0.mk hb
    have BTR := Aside0.mk hbt
    have E := Aside0.mk (And.intro e0 (And.intro e1 (And.intro e2 e3)))
    have t0 := blk_cell hbt 0
    have t1 := blk_cell hbt 1
    have t2 := blk_cell hbt 2
    have t3 := blk_cell hbt 3
    have t4 := blk_cell hbt 4
    have tf := blk_frozen hbt
    simp at t0 t1 t2 t3 t4
    clear hb hbt e0 e1 e2 e3
    have hjj : j = 0 ∨ j = 1 ∨ j = 2 := by omega
    rcases hjj with rfl | rfl | rfl
    · go_wp2
      go_roundw
      case rel =>
        obtain ⟨e0, e1, e2, e3⟩ := E.out
        refine ⟨1, andM B0 14, B1, andM S0 15, S1, by omega, by first | rfl | go_num, by rw [e0]; rfl, by rw [e1]; rfl, by rw [e2]; rfl, by rw [e3]; rfl, ?_, ?_⟩
        · exact blk_put (blk_put BTR.out 1 _ rfl) 3 _ rfl
        · exact Below.setCell (p := ⟨w2.heap.size, 3, none⟩) (Below.setCell (p := ⟨w2.heap.size, 1, none⟩) HBR.out (Nat.le_refl _) _) (Nat.le_refl _) _
      case measure => simp [intOf]
    · go_wp2
      go_roundw
      case rel =>
        obtain ⟨e0, e1, e2, e3⟩ := E.out
        refine ⟨2, B0, andM B1 14, S0, andM S1 15, by omega, by first | rfl | go_num, by rw [e0]; rfl, by rw [e1]; rfl, by rw [e2]; rfl, by rw [e3]; rfl, ?_, ?_⟩
        · exact blk_put (blk_put BTR.out 2 _ rfl) 4 _ rfl
        · exact Below.setCell (p := ⟨w2.heap.size, 4, none⟩) (Below.setCell (p := ⟨w2.heap.size, 2, none⟩) HBR.out (Nat.le_refl _) _) (Nat.le_refl _) _
      case measure => simp [intOf]
    · obtain ⟨e0, e1, e2, e3⟩ := E.out
      have f0 : B0 = andM b0 14 := e0
      have f1 : B1 = andM b1 14 := e1
      have f2 : S0 = andM s0 15 := e2
      have f3 : S1 = andM s1 15 := e3
      clear e0 e1 e2 e3 E
      subst f0 f1 f2 f3
      have hr : wr.heap[w.heap.size + 1]? = _ := (HBR.out.block (w.heap.size + 1) (by omega)).trans BR4.out
      have rf := blk_frozen hr
      have q0 := blk_cell hr 0
      have q1 := blk_cell hr 1
      have q2 := blk_cell hr 2
      have q3 := blk_cell hr 3
      have q4 := blk_cell hr 4
      simp at q0 q1 q2 q3 q4
      have RR := Aside0.mk hr
      clear hr
      go_wp2
      have RR' := RR
      have hr := blk_set (blk_set (blk_set (blk_set (blk_set RR'.out 0 (.int .i64 (2))) 1 (.int .u64 (andM b0 14))) 2 (.int .u64 (andM b1 14))) 3 (.int .u64 (andM s0 15))) 4 (.int .u64 (andM s1 15))
      refine bodyPost_ret (results_cell_row rfl _ _ (w.heap.size + 1) 32 #[.int .i64 (2), .int .u64 (andM b0 14), .int .u64 (andM b1 14), .int .u64 (andM s0 15), .int .u64 (andM s1 15)] (0, 0) _ rfl hr Tryd.underlying32 rfl (by kernel_rfl)) rfl ⟨rfl, ?_⟩
      have hbb : Below w.heap.size w wr := HB4.out.trans (HBR.out.mono (by omega))
      exact Below.setCell (p := ⟨w.heap.size + 1, 4, none⟩) (Below.setCell (p := ⟨w.heap.size + 1, 3, none⟩) (Below.setCell (p := ⟨w.heap.size + 1, 2, none⟩) (Below.setCell (p := ⟨w.heap.size + 1, 1, none⟩) (Below.setCell (p := ⟨w.heap.size + 1, 0, none⟩) hbb (Nat.le_succ _) _) (Nat.le_succ _) _) (Nat.le_succ _) _) (Nat.le_succ _) _) (Nat.le_succ _) _
theorem some5_3 (l b0 b1 s0 s1 : Int) (w : World) (ht : l % 256 % 3 = 2) :
    Calls Tryd.prog 10 #[.agg #[.int .i64 l, .int .u64 b0, .int .u64 b1, .int .u64 s0, .int .u64 s1]] w fun e w' => e = .returned (.agg #[.int .i64 (3), .int .u64 (andM b0 8190), .int .u64 (andM b1 8190), .int .u64 (andM s0 8191), .int .u64 (andM s1 8191)]) ∧ Below w.heap.size w w' := by
  have ho := fun W => honeycomblaw05_Own.calls l b0 b1 s0 s1 l b0 b1 s0 s1 W rfl
  have hand : Go.bits .and .i64 l 255 = l % 256 := by rw [and_255]
  have hmod : (l % 256).tmod 3 = 2 := by rw [Int.tmod_eq_emod_of_nonneg (by omega), ht]
  have hnot : Go.bits .andNot .u64 8191 1 = 8190 := by decide
  go_enter Tryd.func10, Tryd.ntmps10
  go_upto_region 1 with (fail)
  obtain ⟨w1, hw1⟩ : ∃ w1, w1 = (w.alloc (.cells #[.int .i64 l, .int .u64 b0, .int .u64 b1, .int .u64 s0, .int .u64 s1] 25)).alloc (.cells #[.int .i64 0, .int .u64 0, .int .u64 0, .int .u64 0, .int .u64 0] 32) := ⟨_, rfl⟩
  have hsz1 : (w.alloc (.cells #[.int .i64 l, .int .u64 b0, .int .u64 b1, .int .u64 s0, .int .u64 s1] 25)).heap.size = w.heap.size + 1 := by simp
  have hbx : w1.heap[w.heap.size]? = some (.cells #[.int .i64 l, .int .u64 b0, .int .u64 b1, .int .u64 s0, .int .u64 s1] 25 (0, 0)) := by
    rw [hw1]
    exact blk_alloc (blk_new w _) _
  have hbr : w1.heap[w.heap.size + 1]? = some (.cells #[.int .i64 0, .int .u64 0, .int .u64 0, .int .u64 0, .int .u64 0] 32 (0, 0)) := by
    rw [hw1, ← hsz1]
    exact blk_new _ _
  have hB1 : Below w.heap.size w w1 := by
    rw [hw1]
    exact below_alloc (below_alloc (Below.refl _ _) _) _
  rw [← hw1]
  clear hw1 hsz1
  have x0 := blk_cell hbx 0
  have x1 := blk_cell hbx 1
  have x2 := blk_cell hbx 2
  have x3 := blk_cell hbx 3
  have x4 := blk_cell hbx 4
  simp at x0 x1 x2 x3 x4
  have BX := Aside0.mk hbx
  have BR := Aside0.mk hbr
  have HB1 := Aside0.mk hB1
  have hz1 := blk_lt hbr
  clear hbx hbr hB1
  go_wp2_with fail
  refine (ho _).mono ?_
  rintro e w2 ⟨rfl, hb⟩
  have hz2 := hb.size
  have BX2 := Aside0.mk (blk_below BX.out hb)
  have BR2 := Aside0.mk (blk_below BR.out hb)
  have HB2 := Aside0.mk (HB1.out.trans (hb.mono (by omega)))
  clear hb x0 x1 x2 x3 x4
  go_upto_region 2 with (fail)
  obtain ⟨w3, hw3⟩ : ∃ w3, w3 = w2.alloc (.cells #[.int .i64 l, .int .u64 b0, .int .u64 b1, .int .u64 s0, .int .u64 s1] 32) := ⟨_, rfl⟩
  have hbt : w3.heap[w2.heap.size]? = some (.cells #[.int .i64 l, .int .u64 b0, .int .u64 b1, .int .u64 s0, .int .u64 s1] 32 (0, 0)) := by
    rw [hw3]
    exact blk_new _ _
  have BX3 := Aside0.mk (blk_alloc BX2.out (.cells #[.int .i64 l, .int .u64 b0, .int .u64 b1, .int .u64 s0, .int .u64 s1] 32))
  have BR3 := Aside0.mk (blk_alloc BR2.out (.cells #[.int .i64 l, .int .u64 b0, .int .u64 b1, .int .u64 s0, .int .u64 s1] 32))
  have HB3 := Aside0.mk (below_alloc HB2.out (.cells #[.int .i64 l, .int .u64 b0, .int .u64 b1, .int .u64 s0, .int .u64 s1] 32))
  rw [← hw3] at BX3 BR3 HB3
  rw [← hw3]
  have hz3 := blk_lt hbt
  clear hw3
  have x0 := blk_cell BX3.out 0
  have t0 := blk_cell hbt 0
  have tf := blk_frozen hbt
  simp at x0 t0
  have BT3 := Aside0.mk hbt
  have hne : ¬ w.heap.size = w2.heap.size := by omega
  clear hbt
  go_wp2_with fail
  obtain ⟨w4, hw4⟩ : ∃ w4, w4 = (w3.setCell ⟨w2.heap.size, 0, none⟩ (.int .i64 3)).alloc (.cells #[.int .u64 0, .int .u64 18446744073709551615, .int .u64 15, .int .u64 8191] 22) := ⟨_, rfl⟩
  have BT4 := Aside0.mk (blk_alloc (blk_put BT3.out 0 (.int .i64 3) rfl) (.cells #[.int .u64 0, .int .u64 18446744073709551615, .int .u64 15, .int .u64 8191] 22))
  have BR4 := Aside0.mk (blk_alloc (blk_far BR3.out (p := ⟨w2.heap.size, 0, none⟩) (by show ¬ w.heap.size + 1 = w2.heap.size; omega) (.int .i64 3)) (.cells #[.int .u64 0, .int .u64 18446744073709551615, .int .u64 15, .int .u64 8191] 22))
  have HB4 := Aside0.mk (below_alloc (Below.setCell (p := ⟨w2.heap.size, 0, none⟩) HB3.out (by show w.heap.size ≤ w2.heap.size; omega) (.int .i64 3)) (.cells #[.int .u64 0, .int .u64 18446744073709551615, .int .u64 15, .int .u64 8191] 22))
  rw [← hw4] at BT4 BR4 HB4
  rw [← hw4]
  have hz4 := blk_lt BT4.out
  clear hw4 x0 t0 tf
  go_loopw [19] (fun i wr => ∃ (j : Nat) (B0 B1 S0 S1 : Int), j ≤ 2 ∧ i = .int .i64 j ∧ B0 = (if 0 < j then andM b0 8190 else b0) ∧ B1 = (if 1 < j then andM b1 8190 else b1) ∧ S0 = (if 0 < j then andM s0 8191 else s0) ∧ S1 = (if 1 < j then andM s1 8191 else s1) ∧ wr.heap[w2.heap.size]? = some (.cells #[.int .i64 3, .int .u64 B0, .int .u64 B1, .int .u64 S0, .int .u64 S1] 32 (0, 0)) ∧ Below w2.heap.size w4 wr) (fun i _ => 2 - (intOf i).toNat)
  case atStart => exact ⟨0, b0, b1, s0, s1, by omega, rfl, rfl, rfl, rfl, rfl, BT4.out, Below.refl _ _⟩
  case round =>
    obtain ⟨j, B0, B1, S0, S1, hj, rfl, e0, e1, e2, e3, hbt, hb⟩ := hrel
    have HBR := Aside0.mk hb
    have BTR := Aside0.mk hbt
    have E := Aside0.mk (And.intro e0 (And.intro e1 (And.intro e2 e3)))
    have t0 := blk_cell hbt 0
    have t1 := blk_cell hbt 1
    have t2 := blk_cell hbt 2
    have t3 := blk_cell hbt 3
    have t4 := blk_cell hbt 4
    have tf := blk_frozen hbt
    simp at t0 t1 t2 t3 t4
    clear hb hbt e0 e1 e2 e3
    have hjj : j = 0 ∨ j = 1 ∨ j = 2 := by omega
    rcases hjj with rfl | rfl | rfl
    · go_wp2
      go_roundw
      case rel =>
        obtain ⟨e0, e1, e2, e3⟩ := E.out
        refine ⟨1, andM B0 8190, B1, andM S0 8191, S1, by omega, by first | rfl | go_num, by rw [e0]; rfl, by rw [e1]; rfl, by rw [e2]; rfl, by rw [e3]; rfl, ?_, ?_⟩
        · exact blk_put (blk_put BTR.out 1 _ rfl) 3 _ rfl
        · exact Below.setCell (p := ⟨w2.heap.size, 3, none⟩) (Below.setCell (p := ⟨w2.heap.size, 1, none⟩) HBR.out (Nat.le_refl _) _) (Nat.le_refl _) _
      case measure => simp [intOf]
    · go_wp2
      go_roundw
      case rel =>
        obtain ⟨e0, e1, e2, e3⟩ := E.out
        refine ⟨2, B0, andM B1 8190, S0, andM S1 8191, by omega, by first | rfl | go_num, by rw [e0]; rfl, by rw [e1]; rfl, by rw [e2]; rfl, by rw [e3]; rfl, ?_, ?_⟩
        · exact blk_put (blk_put BTR.out 2 _ rfl) 4 _ rfl
        · exact Below.setCell (p := ⟨w2.heap.size, 4, none⟩) (Below.setCell (p := ⟨w2.heap.size, 2, none⟩) HBR.out (Nat.le_refl _) _) (Nat.le_refl _) _
      case measure => simp [intOf]
    · obtain ⟨e0, e1, e2, e3⟩ := E.out
      have f0 : B0 = andM b0 8190 := e0
      have f1 : B1 = andM b1 8190 := e1
      have f2 : S0 = andM s0 8191 := e2
      have f3 : S1 = andM s1 8191 := e3
      clear e0 e1 e2 e3 E
      subst f0 f1 f2 f3
      have hr : wr.heap[w.heap.size + 1]? = _ := (HBR.out.block (w.heap.size + 1) (by omega)).trans BR4.out
      have rf := blk_frozen hr
      have q0 := blk_cell hr 0
      have q1 := blk_cell hr 1
      have q2 := blk_cell hr 2
      have q3 := blk_cell hr 3
      have q4 := blk_cell hr 4
      simp at q0 q1 q2 q3 q4
      have RR := Aside0.mk hr
      clear hr
      go_wp2
      have RR' := RR
      have hr := blk_set (blk_set (blk_set (blk_set (blk_set RR'.out 0 (.int .i64 (3))) 1 (.int .u64 (andM b0 8190))) 2 (.int .u64 (andM b1 8190))) 3 (.int .u64 (andM s0 8191))) 4 (.int .u64 (andM s1 8191))
      refine bodyPost_ret (results_cell_row rfl _ _ (w.heap.size + 1) 32 #[.int .i64 (3), .int .u64 (andM b0 8190), .int .u64 (andM b1 8190), .int .u64 (andM s0 8191), .int .u64 (andM s1 8191)] (0, 0) _ rfl hr Tryd.underlying32 rfl (by kernel_rfl)) rfl ⟨rfl, ?_⟩
      have hbb : Below w.heap.size w wr := HB4.out.trans (HBR.out.mono (by omega))
      exact Below.setCell (p := ⟨w.heap.size + 1, 4, none⟩) (Below.setCell (p := ⟨w.heap.size + 1, 3, none⟩) (Below.setCell (p := ⟨w.heap.size + 1, 2, none⟩) (Below.setCell (p := ⟨w.heap.size + 1, 1, none⟩) (Below.setCell (p := ⟨w.heap.size + 1, 0, none⟩) hbb (Nat.le_succ _) _) (Nat.le_succ _) _) (Nat.le_succ _) _) (Nat.le_succ _) _) (Nat.le_succ _) _
theorem some5_1 (l b0 b1 s0 s1 : Int) (w : World) (ht : l % 256 % 3 = 0) :
    Calls Tryd.prog 10 #[.agg #[.int .i64 l, .int .u64 b0, .int .u64 b1, .int .u64 s0, .int .u64 s1]] w fun e w' => e = .returned (.agg #[.int .i64 (1), .int .u64 (andM b0 18446744073709551614), .int .u64 (0), .int .u64 (andM s0 18446744073709551615), .int .u64 (0)]) ∧ Below w.heap.size w w' := by
  have ho := fun W => honeycomblaw05_Own.calls l b0 b1 s0 s1 l b0 b1 s0 s1 W rfl
  have hand : Go.bits .and .i64 l 255 = l % 256 := by rw [and_255]
  have hmod : (l % 256).tmod 3 = 0 := by rw [Int.tmod_eq_emod_of_nonneg (by omega), ht]
  have hnot : Go.bits .andNot .u64 18446744073709551615 1 = 18446744073709551614 := by decide
  go_enter Tryd.func10, Tryd.ntmps10
  go_upto_region 1 with (fail)
  obtain ⟨w1, hw1⟩ : ∃ w1, w1 = (w.alloc (.cells #[.int .i64 l, .int .u64 b0, .int .u64 b1, .int .u64 s0, .int .u64 s1] 25)).alloc (.cells #[.int .i64 0, .int .u64 0, .int .u64 0, .int .u64 0, .int .u64 0] 32) := ⟨_, rfl⟩
  have hsz1 : (w.alloc (.cells #[.int .i64 l, .int .u64 b0, .int .u64 b1, .int .u64 s0, .int .u64 s1] 25)).heap.size = w.heap.size + 1 := by simp
  have hbx : w1.heap[w.heap.size]? = some (.cells #[.int .i64 l, .int .u64 b0, .int .u64 b1, .int .u64 s0, .int .u64 s1] 25 (0, 0)) := by
    rw [hw1]
    exact blk_alloc (blk_new w _) _
  have hbr : w1.heap[w.heap.size + 1]? = some (.cells #[.int .i64 0, .int .u64 0, .int .u64 0, .int .u64 0, .int .u64 0] 32 (0, 0)) := by
    rw [hw1, ← hsz1]
    exact blk_new _ _
  have hB1 : Below w.heap.size w w1 := by
    rw [hw1]
    exact below_alloc (below_alloc (Below.refl _ _) _) _
  rw [← hw1]
  clear hw1 hsz1
  have x0 := blk_cell hbx 0
  have x1 := blk_cell hbx 1
  have x2 := blk_cell hbx 2
  have x3 := blk_cell hbx 3
  have x4 := blk_cell hbx 4
  simp at x0 x1 x2 x3 x4
  have BX := Aside0.mk hbx
  have BR := Aside0.mk hbr
  have HB1 := Aside0.mk hB1
  have hz1 := blk_lt hbr
  clear hbx hbr hB1
  go_wp2_with fail
  refine (ho _).mono ?_
  rintro e w2 ⟨rfl, hb⟩
  have hz2 := hb.size
  have BX2 := Aside0.mk (blk_below BX.out hb)
  have BR2 := Aside0.mk (blk_below BR.out hb)
  have HB2 := Aside0.mk (HB1.out.trans (hb.mono (by omega)))
  clear hb x0 x1 x2 x3 x4
  go_upto_region 2 with (fail)
  obtain ⟨w3, hw3⟩ : ∃ w3, w3 = w2.alloc (.cells #[.int .i64 l, .int .u64 b0, .int .u64 b1, .int .u64 s0, .int .u64 s1] 32) := ⟨_, rfl⟩
  have hbt : w3.heap[w2.heap.size]? = some (.cells #[.int .i64 l, .int .u64 b0, .int .u64 b1, .int .u64 s0, .int .u64 s1] 32 (0, 0)) := by
    rw [hw3]
    exact blk_new _ _
  have BX3 := Aside0.mk (blk_alloc BX2.out (.cells #[.int .i64 l, .int .u64 b0, .int .u64 b1, .int .u64 s0, .int .u64 s1] 32))
  have BR3 := Aside0.mk (blk_alloc BR2.out (.cells #[.int .i64 l, .int .u64 b0, .int .u64 b1, .int .u64 s0, .int .u64 s1] 32))
  have HB3 := Aside0.mk (below_alloc HB2.out (.cells #[.int .i64 l, .int .u64 b0, .int .u64 b1, .int .u64 s0, .int .u64 s1] 32))
  rw [← hw3] at BX3 BR3 HB3
  rw [← hw3]
  have hz3 := blk_lt hbt
  clear hw3
  have x0 := blk_cell BX3.out 0
  have t0 := blk_cell hbt 0
  have tf := blk_frozen hbt
  simp at x0 t0
  have BT3 := Aside0.mk hbt
  have hne : ¬ w.heap.size = w2.heap.size := by omega
  clear hbt
  go_wp2_with fail
  obtain ⟨w4, hw4⟩ : ∃ w4, w4 = (w3.setCell ⟨w2.heap.size, 0, none⟩ (.int .i64 1)).alloc (.cells #[.int .u64 0, .int .u64 18446744073709551615, .int .u64 15, .int .u64 8191] 22) := ⟨_, rfl⟩
  have BT4 := Aside0.mk (blk_alloc (blk_put BT3.out 0 (.int .i64 1) rfl) (.cells #[.int .u64 0, .int .u64 18446744073709551615, .int .u64 15, .int .u64 8191] 22))
  have BR4 := Aside0.mk (blk_alloc (blk_far BR3.out (p := ⟨w2.heap.size, 0, none⟩) (by show ¬ w.heap.size + 1 = w2.heap.size; omega) (.int .i64 1)) (.cells #[.int .u64 0, .int .u64 18446744073709551615, .int .u64 15, .int .u64 8191] 22))
  have HB4 := Aside0.mk (below_alloc (Below.setCell (p := ⟨w2.heap.size, 0, none⟩) HB3.out (by show w.heap.size ≤ w2.heap.size; omega) (.int .i64 1)) (.cells #[.int .u64 0, .int .u64 18446744073709551615, .int .u64 15, .int .u64 8191] 22))
  rw [← hw4] at BT4 BR4 HB4
  rw [← hw4]
  have hz4 := blk_lt BT4.out
  clear hw4 x0 t0 tf
  go_loopw [19] (fun i wr => ∃ (j : Nat) (B0 B1 S0 S1 : Int), j ≤ 2 ∧ i = .int .i64 j ∧ B0 = (if 0 < j then andM b0 18446744073709551614 else b0) ∧ B1 = (if 1 < j then andM b1 18446744073709551614 else b1) ∧ S0 = (if 0 < j then andM s0 18446744073709551615 else s0) ∧ S1 = (if 1 < j then andM s1 18446744073709551615 else s1) ∧ wr.heap[w2.heap.size]? = some (.cells #[.int .i64 1, .int .u64 B0, .int .u64 B1, .int .u64 S0, .int .u64 S1] 32 (0, 0)) ∧ Below w2.heap.size w4 wr) (fun i _ => 2 - (intOf i).toNat)
  case atStart => exact ⟨0, b0, b1, s0, s1, by omega, rfl, rfl, rfl, rfl, rfl, BT4.out, Below.refl _ _⟩
  case round =>
    obtain ⟨j, B0, B1, S0, S1, hj, rfl, e0, e1, e2, e3, hbt, hb⟩ := hrel
    have HBR := Aside0.mk hb
    have BTR := Aside0.mk hbt
    have E := Aside0.mk (And.intro e0 (And.intro e1 (And.intro e2 e3)))
    have t0 := blk_cell hbt 0
    have t1 := blk_cell hbt 1
    have t2 := blk_cell hbt 2
    have t3 := blk_cell hbt 3
    have t4 := blk_cell hbt 4
    have tf := blk_frozen hbt
    simp at t0 t1 t2 t3 t4
    clear hb hbt e0 e1 e2 e3
    have hjj : j = 0 ∨ j = 1 ∨ j = 2 := by omega
    rcases hjj with rfl | rfl | rfl
    · go_wp2
      go_roundw
      case rel =>
        obtain ⟨e0, e1, e2, e3⟩ := E.out
        refine ⟨1, andM B0 18446744073709551614, B1, andM S0 18446744073709551615, S1, by omega, by first | rfl | go_num, by rw [e0]; rfl, by rw [e1]; rfl, by rw [e2]; rfl, by rw [e3]; rfl, ?_, ?_⟩
        · exact blk_put (blk_put BTR.out 1 _ rfl) 3 _ rfl
        · exact Below.setCell (p := ⟨w2.heap.size, 3, none⟩) (Below.setCell (p := ⟨w2.heap.size, 1, none⟩) HBR.out (Nat.le_refl _) _) (Nat.le_refl _) _
      case measure => simp [intOf]
    · go_wp2
      go_roundw
      case rel =>
        obtain ⟨e0, e1, e2, e3⟩ := E.out
        refine ⟨2, B0, andM B1 18446744073709551614, S0, andM S1 18446744073709551615, by omega, by first | rfl | go_num, by rw [e0]; rfl, by rw [e1]; rfl, by rw [e2]; rfl, by rw [e3]; rfl, ?_, ?_⟩
        · exact blk_put (blk_put BTR.out 2 _ rfl) 4 _ rfl
        · exact Below.setCell (p := ⟨w2.heap.size, 4, none⟩) (Below.setCell (p := ⟨w2.heap.size, 2, none⟩) HBR.out (Nat.le_refl _) _) (Nat.le_refl _) _
      case measure => simp [intOf]
    · obtain ⟨e0, e1, e2, e3⟩ := E.out
      have f0 : B0 = andM b0 18446744073709551614 := e0
      have f1 : B1 = andM b1 18446744073709551614 := e1
      have f2 : S0 = andM s0 18446744073709551615 := e2
      have f3 : S1 = andM s1 18446744073709551615 := e3
      clear e0 e1 e2 e3 E
      subst f0 f1 f2 f3
      have hr : wr.heap[w.heap.size + 1]? = _ := (HBR.out.block (w.heap.size + 1) (by omega)).trans BR4.out
      have rf := blk_frozen hr
      have q0 := blk_cell hr 0
      have q1 := blk_cell hr 1
      have q2 := blk_cell hr 2
      have q3 := blk_cell hr 3
      have q4 := blk_cell hr 4
      simp at q0 q1 q2 q3 q4
      have RR := Aside0.mk hr
      clear hr
      go_wp2
      have RR' := Aside0.mk (blk_far (blk_far RR.out (p := ⟨w2.heap.size, 2, none⟩) (by show ¬ w.heap.size + 1 = w2.heap.size; omega) (.int .u64 0)) (p := ⟨w2.heap.size, 4, none⟩) (by show ¬ w.heap.size + 1 = w2.heap.size; omega) (.int .u64 0))
      have hr := blk_set (blk_set (blk_set (blk_set (blk_set RR'.out 0 (.int .i64 (1))) 1 (.int .u64 (andM b0 18446744073709551614))) 2 (.int .u64 (0))) 3 (.int .u64 (andM s0 18446744073709551615))) 4 (.int .u64 (0))
      refine bodyPost_ret (results_cell_row rfl _ _ (w.heap.size + 1) 32 #[.int .i64 (1), .int .u64 (andM b0 18446744073709551614), .int .u64 (0), .int .u64 (andM s0 18446744073709551615), .int .u64 (0)] (0, 0) _ rfl hr Tryd.underlying32 rfl (by kernel_rfl)) rfl ⟨rfl, ?_⟩
      have hbb : Below w.heap.size w ((wr.setCell ⟨w2.heap.size, 2, none⟩ (.int .u64 0)).setCell ⟨w2.heap.size, 4, none⟩ (.int .u64 0)) := Below.setCell (p := ⟨w2.heap.size, 4, none⟩) (Below.setCell (p := ⟨w2.heap.size, 2, none⟩) (HB4.out.trans (HBR.out.mono (by omega))) (by show w.heap.size ≤ w2.heap.size; omega) _) (by show w.heap.size ≤ w2.heap.size; omega) _
      exact Below.setCell (p := ⟨w.heap.size + 1, 4, none⟩) (Below.setCell (p := ⟨w.heap.size + 1, 3, none⟩) (Below.setCell (p := ⟨w.heap.size + 1, 2, none⟩) (Below.setCell (p := ⟨w.heap.size + 1, 1, none⟩) (Below.setCell (p := ⟨w.heap.size + 1, 0, none⟩) hbb (Nat.le_succ _) _) (Nat.le_succ _) _) (Nat.le_succ _) _) (Nat.le_succ _) _) (Nat.le_succ _) _
def latT (l : Int) : Int := 1 + l % 256 % 3
def maskT (t : Int) : Int := if t = 1 then 18446744073709551615 else if t = 2 then 15 else 8191
def bornT (t : Int) : Int := if t = 1 then 18446744073709551614 else if t = 2 then 14 else 8190
def XSome5.f (l b0 b1 s0 s1 : Int) : Option (Int × Int × Int × Int × Int) := some (latT l, andM b0 (bornT (latT l)), if latT l = 1 then 0 else andM b1 (bornT (latT l)), andM s0 (maskT (latT l)), if latT l = 1 then 0 else andM s1 (maskT (latT l)))
theorem XSome5.calls (a0_0 : Int) (a0_1 : Int) (a0_2 : Int) (a0_3 : Int) (a0_4 : Int) (r1 : Int) (r2 : Int) (r3 : Int) (r4 : Int) (r5 : Int) (w : World) (h : XSome5.f a0_0 a0_1 a0_2 a0_3 a0_4 = some (r1, r2, r3, r4, r5)) :
    Calls Tryd.prog 10 #[.agg #[.int .i64 a0_0, .int .u64 a0_1, .int .u64 a0_2, .int .u64 a0_3, .int .u64 a0_4]] w fun e w' => e = .returned (.agg #[.int .i64 r1, .int .u64 r2, .int .u64 r3, .int .u64 r4, .int .u64 r5]) ∧ Below w.heap.size w w' := by
  simp only [XSome5.f, Option.some.injEq, Prod.mk.injEq] at h
  obtain ⟨rfl, rfl, rfl, rfl, rfl⟩ := h
  have hc : a0_0 % 256 % 3 = 0 ∨ a0_0 % 256 % 3 = 1 ∨ a0_0 % 256 % 3 = 2 := by omega
  rcases hc with hc | hc | hc
  · have e : latT a0_0 = 1 := by unfold latT; omega
    rw [e]
    exact some5_1 _ _ _ _ _ w hc
  · have e : latT a0_0 = 2 := by unfold latT; omega
    rw [e]
    exact some5_2 _ _ _ _ _ w hc
  · have e : latT a0_0 = 3 := by unfold latT; omega
    rw [e]
    exact some5_3 _ _ _ _ _ w hc
theorem u64N (n : Nat) (h : n < 18446744073709551616) : IntKind.u64.wrap (n : Int) = n := by
  have : IntKind.u64.wrap (n : Int) = (n : Int) % 18446744073709551616 := by simp [IntKind.wrap, IntKind.signed, IntKind.bits]
  rw [this]
  omega
theorem ofIntN (n : Nat) (h : n < 18446744073709551616) : (BitVec.ofInt 64 (n : Int)).toNat = n := by
  rw [BitVec.toNat_ofInt]
  omega
theorem andN (a c : Nat) (ha : a < 18446744073709551616) (hc : c < 18446744073709551616) : Go.bits .and .u64 (a : Int) (c : Int) = ((a &&& c : Nat) : Int) := by
  have key : (BitVec.ofInt 64 (a : Int) &&& BitVec.ofInt 64 (c : Int)).toNat = a &&& c := by rw [BitVec.toNat_and, ofIntN a ha, ofIntN c hc]
  show IntKind.u64.wrap ((BitVec.ofInt 64 (a : Int) &&& BitVec.ofInt 64 (c : Int)).toNat : Nat) = _
  rw [key]
  exact u64N _ (Nat.lt_of_le_of_lt Nat.and_le_left ha)
theorem orN (a c : Nat) (ha : a < 18446744073709551616) (hc : c < 18446744073709551616) : Go.bits .or .u64 (a : Int) (c : Int) = ((a ||| c : Nat) : Int) := by
  have key : (BitVec.ofInt 64 (a : Int) ||| BitVec.ofInt 64 (c : Int)).toNat = a ||| c := by rw [BitVec.toNat_or, ofIntN a ha, ofIntN c hc]
  show IntKind.u64.wrap ((BitVec.ofInt 64 (a : Int) ||| BitVec.ofInt 64 (c : Int)).toNat : Nat) = _
  rw [key]
  exact u64N _ (Nat.or_lt_two_pow (n := 64) ha hc)
theorem badN (B S m1 m2 o : Nat) (hB : B < 18446744073709551616) (hS : S < 18446744073709551616) (ho : o < 18446744073709551616) (h1 : m1 &&& (o ||| 1) = 0) (h2 : m2 &&& o = 0) : badH ((B &&& m1 : Nat) : Int) ((S &&& m2 : Nat) : Int) (o : Int) = false := by
  unfold badH
  have e := orN o 1 ho (by decide)
  rw [show ((1 : Nat) : Int) = 1 from rfl] at e
  rw [e, andN _ _ (Nat.lt_of_le_of_lt Nat.and_le_left hB) (Nat.or_lt_two_pow (n := 64) ho (by decide)), andN _ _ (Nat.lt_of_le_of_lt Nat.and_le_left hS) ho, Nat.and_assoc, Nat.and_assoc, h1, h2]
  simp
theorem badZ (o : Int) (ho : o = 18446744073709551615) : badH 0 0 o = false := by subst ho; decide +kernel
theorem even_and (B m : Nat) (h : m % 2 = 0) : (B &&& m) % 2 = 0 := by
  have := Nat.and_mod_two_pow (a := B) (b := m) (n := 1)
  simp only [Nat.pow_one] at this
  rw [this, h, Nat.and_zero]
/-- a table as the law makes it: the numbers, and that it may be -/
def Tb (L : Int) (b0 b1 s0 s1 : Nat) : Prop := (1 ≤ L ∧ L ≤ 3) ∧ checkT L b0 b1 s0 s1 = none ∧ b0 % 2 = 0 ∧ b1 % 2 = 0 ∧ b0 < 18446744073709551616 ∧ b1 < 18446744073709551616 ∧ s0 < 18446744073709551616 ∧ s1 < 18446744073709551616 ∧ (L = 1 → b1 = 0 ∧ s1 = 0)
theorem some_rule (l : Int) (B B1 S S1 : Nat) (hB : B < 18446744073709551616) (hB1 : B1 < 18446744073709551616) (hS : S < 18446744073709551616) (hS1 : S1 < 18446744073709551616) :
    ∃ (L : Int) (b0 b1 s0 s1 : Nat), XSome5.f l B B1 S S1 = some (L, (b0 : Int), (b1 : Int), (s0 : Int), (s1 : Int)) ∧ Tb L b0 b1 s0 s1 := by
  have hL : latT l = 1 ∨ latT l = 2 ∨ latT l = 3 := by unfold latT; omega
  have lt := fun (a b : Nat) (h : a < 18446744073709551616) => Nat.lt_of_le_of_lt (Nat.and_le_left (n := a) (m := b)) h
  unfold XSome5.f
  rcases hL with hL | hL | hL <;> rw [hL]
  · have e1 : andM B (bornT 1) = ((B &&& 18446744073709551614 : Nat) : Int) := andN B 18446744073709551614 hB (by decide)
    have e2 : andM S (maskT 1) = ((S &&& 18446744073709551615 : Nat) : Int) := andN S 18446744073709551615 hS (by decide)
    have h0' : badH ((B &&& 18446744073709551614 : Nat) : Int) ((S &&& 18446744073709551615 : Nat) : Int) (restT 1) = false := badN B S 18446744073709551614 18446744073709551615 0 hB hS (by decide) (by decide +kernel) (by decide +kernel)
    refine ⟨1, B &&& 18446744073709551614, 0, S &&& 18446744073709551615, 0, ?_, ⟨by decide, by decide⟩, ?_, even_and _ _ rfl, rfl, lt _ _ hB, by decide, lt _ _ hS, by decide, fun _ => ⟨rfl, rfl⟩⟩
    · rw [e1, e2, if_pos rfl, if_pos rfl]; rfl
    · unfold checkT
      rw [if_pos (by decide), if_neg (by rw [h0', show ((0 : Nat) : Int) = 0 from rfl, badZ (outT 1) rfl]; decide)]
  · have e1 : andM B (bornT 2) = ((B &&& 14 : Nat) : Int) := andN B 14 hB (by decide)
    have e1' : andM B1 (bornT 2) = ((B1 &&& 14 : Nat) : Int) := andN B1 14 hB1 (by decide)
    have e2 : andM S (maskT 2) = ((S &&& 15 : Nat) : Int) := andN S 15 hS (by decide)
    have e2' : andM S1 (maskT 2) = ((S1 &&& 15 : Nat) : Int) := andN S1 15 hS1 (by decide)
    have h0 : badH ((B &&& 14 : Nat) : Int) ((S &&& 15 : Nat) : Int) (restT 2) = false := badN B S 14 15 18446744073709551600 hB hS (by decide) (by decide +kernel) (by decide +kernel)
    have h0' : badH ((B1 &&& 14 : Nat) : Int) ((S1 &&& 15 : Nat) : Int) (outT 2) = false := badN B1 S1 14 15 18446744073709551600 hB1 hS1 (by decide) (by decide +kernel) (by decide +kernel)
    refine ⟨2, B &&& 14, B1 &&& 14, S &&& 15, S1 &&& 15, ?_, ⟨by decide, by decide⟩, ?_, even_and _ _ rfl, even_and _ _ rfl, lt _ _ hB, lt _ _ hB1, lt _ _ hS, lt _ _ hS1, fun h => absurd h (by decide)⟩
    · rw [if_neg (by decide), if_neg (by decide), e1, e1', e2, e2']
    · unfold checkT
      rw [if_pos (by decide), if_neg (by rw [h0, h0']; decide)]
  · have e1 : andM B (bornT 3) = ((B &&& 8190 : Nat) : Int) := andN B 8190 hB (by decide)
    have e1' : andM B1 (bornT 3) = ((B1 &&& 8190 : Nat) : Int) := andN B1 8190 hB1 (by decide)
    have e2 : andM S (maskT 3) = ((S &&& 8191 : Nat) : Int) := andN S 8191 hS (by decide)
    have e2' : andM S1 (maskT 3) = ((S1 &&& 8191 : Nat) : Int) := andN S1 8191 hS1 (by decide)
    have h0 : badH ((B &&& 8190 : Nat) : Int) ((S &&& 8191 : Nat) : Int) (restT 3) = false := badN B S 8190 8191 18446744073709543424 hB hS (by decide) (by decide +kernel) (by decide +kernel)
    have h0' : badH ((B1 &&& 8190 : Nat) : Int) ((S1 &&& 8191 : Nat) : Int) (outT 3) = false := badN B1 S1 8190 8191 18446744073709543424 hB1 hS1 (by decide) (by decide +kernel) (by decide +kernel)
    refine ⟨3, B &&& 8190, B1 &&& 8190, S &&& 8191, S1 &&& 8191, ?_, ⟨by decide, by decide⟩, ?_, even_and _ _ rfl, even_and _ _ rfl, lt _ _ hB, lt _ _ hB1, lt _ _ hS, lt _ _ hS1, fun h => absurd h (by decide)⟩
    · rw [if_neg (by decide), if_neg (by decide), e1, e1', e2, e2']
    · unfold checkT
      rw [if_pos (by decide), if_neg (by rw [h0, h0']; decide)]
theorem stB_cast (g : Nat → Int) (a b : Int) (ha : 0 ≤ a) (hb : 0 ≤ b) : stB g a b = stB g ((a.toNat : Nat) : Int) ((b.toNat : Nat) : Int) := by
  rw [Int.toNat_of_nonneg ha, Int.toNat_of_nonneg hb]
/-- the law, in plain words -/
theorem shifts_plain (l b0 b1 s0 s1 f : Int) (hl : 1 ≤ l ∧ l ≤ 3) (hf : 0 ≤ f) (i j : Nat) (hi : 1 ≤ i ∧ i < 3) (hj : 1 ≤ j ∧ j < 3) :
    stB (stepG l b0 b1 s0 s1 (ofG f 0 0 0)) (i : Int) (j : Int) = stB (stepG l b0 b1 s0 s1 (ofG 0 0 0 f)) ((i : Int) + 4) ((j : Int) + 4) := by
  have e1 : ((i : Int) + 4) = ((i + 4 : Nat) : Int) := by omega
  have e2 : ((j : Int) + 4) = ((j + 4 : Nat) : Int) := by omega
  have key : ∀ dx dy : Int, -1 ≤ dx → dx ≤ 1 → -1 ≤ dy → dy ≤ 1 → stB (ofG f 0 0 0) ((i : Int) + dx) ((j : Int) + dy) = stB (ofG 0 0 0 f) (((i + 4 : Nat) : Int) + dx) (((j + 4 : Nat) : Int) + dy) := by
    intro dx dy h1 h2 h3 h4
    rw [stB_cast _ _ _ (by omega) (by omega), stB_cast (ofG 0 0 0 f) _ _ (by omega) (by omega)]
    obtain ⟨x, hx⟩ : ∃ x, x = ((i : Int) + dx).toNat := ⟨_, rfl⟩
    obtain ⟨y, hy⟩ : ∃ y, y = ((j : Int) + dy).toNat := ⟨_, rfl⟩
    rw [← hx, ← hy, show (((i + 4 : Nat) : Int) + dx).toNat = x + 4 by omega, show (((j + 4 : Nat) : Int) + dy).toNat = y + 4 by omega]
    have hx4 : x < 4 := by omega
    have hy4 : y < 4 := by omega
    rw [stB_of f 0 0 0 hf (by omega) (by omega) (by omega) x y (by omega) (by omega), stB_of 0 0 0 f (by omega) (by omega) (by omega) hf (x + 4) (y + 4) (by omega) (by omega)]
    unfold lfQ
    rw [if_pos hy4, if_pos hx4, if_neg (by omega), if_neg (by omega), show (y + 4) % 4 = y % 4 by omega, show (x + 4) % 4 = x % 4 by omega]
  rw [e1, e2, stB_step _ _ _ _ _ _ i j (by omega) (by omega), stB_step _ _ _ _ _ _ (i + 4) (j + 4) (by omega) (by omega)]
  have c0 := bitQ_congr l b0 b1 s0 s1 hl (ofG f 0 0 0) (ofG 0 0 0 f) j (j + 4) i (i + 4) 0 (by omega) key
  have c1 := bitQ_congr l b0 b1 s0 s1 hl (ofG f 0 0 0) (ofG 0 0 0 f) j (j + 4) i (i + 4) 1 (by omega) key
  simp only [Nat.add_zero] at c0
  rw [c0, c1]
theorem stepG_bd (l b0 b1 s0 s1 : Int) (g : Nat → Int) (k : Nat) : 0 ≤ stepG l b0 b1 s0 s1 g k ∧ stepG l b0 b1 s0 s1 g k < 65536 := by
  have := rowS_bd (bitQ l b0 b1 s0 s1 g k) 16
  exact this
abbrev S16 (ga gb : Nat) (u v : Nat → Int) (W : World) : Prop := (W.cell? ⟨ga, 0, none⟩ = some (.int .u16 (u 0)) ∧ W.cell? ⟨ga, 1, none⟩ = some (.int .u16 (u 1)) ∧ W.cell? ⟨ga, 2, none⟩ = some (.int .u16 (u 2)) ∧ W.cell? ⟨ga, 3, none⟩ = some (.int .u16 (u 3)) ∧ W.cell? ⟨ga, 4, none⟩ = some (.int .u16 (u 4)) ∧ W.cell? ⟨ga, 5, none⟩ = some (.int .u16 (u 5)) ∧ W.cell? ⟨ga, 6, none⟩ = some (.int .u16 (u 6)) ∧ W.cell? ⟨ga, 7, none⟩ = some (.int .u16 (u 7))) ∧ (W.cell? ⟨gb, 0, none⟩ = some (.int .u16 (v 0)) ∧ W.cell? ⟨gb, 1, none⟩ = some (.int .u16 (v 1)) ∧ W.cell? ⟨gb, 2, none⟩ = some (.int .u16 (v 2)) ∧ W.cell? ⟨gb, 3, none⟩ = some (.int .u16 (v 3)) ∧ W.cell? ⟨gb, 4, none⟩ = some (.int .u16 (v 4)) ∧ W.cell? ⟨gb, 5, none⟩ = some (.int .u16 (v 5)) ∧ W.cell? ⟨gb, 6, none⟩ = some (.int .u16 (v 6)) ∧ W.cell? ⟨gb, 7, none⟩ = some (.int .u16 (v 7)))
theorem S16.of {W : World} {ga gb : Nat} {u v : Nat → Int} (h1 : W.heap[ga]? = some (blkO u 52)) (h2 : W.heap[gb]? = some (blkO v 52)) : S16 ga gb u v W :=
  ⟨⟨blk_cell h1 0, blk_cell h1 1, blk_cell h1 2, blk_cell h1 3, blk_cell h1 4, blk_cell h1 5, blk_cell h1 6, blk_cell h1 7⟩, blk_cell h2 0, blk_cell h2 1, blk_cell h2 2, blk_cell h2 3, blk_cell h2 4, blk_cell h2 5, blk_cell h2 6, blk_cell h2 7⟩
theorem blockShifts_walk (l B0 B1 S0 S1 f : Int) (w : World) (hG : Six w) (hb0 : 0 ≤ B0) (hb0' : B0 < 18446744073709551616) (hb1 : 0 ≤ B1) (hb1' : B1 < 18446744073709551616) (hs0 : 0 ≤ S0) (hs0' : S0 < 18446744073709551616) (hs1 : 0 ≤ S1) (hs1' : S1 < 18446744073709551616) (hf0 : 0 ≤ f) (hf1 : f < 4294967296) :
    Calls Tryd.prog 4 #[.agg #[.int .i64 l, .int .u64 B0, .int .u64 B1, .int .u64 S0, .int .u64 S1], .int .u32 f] w fun e w' => e = .returned (.bool true) ∧ Below w.heap.size w w' := by
  obtain ⟨m0, rfl⟩ := Int.eq_ofNat_of_zero_le hb0
  obtain ⟨m1, rfl⟩ := Int.eq_ofNat_of_zero_le hb1
  obtain ⟨m2, rfl⟩ := Int.eq_ofNat_of_zero_le hs0
  obtain ⟨m3, rfl⟩ := Int.eq_ofNat_of_zero_le hs1
  obtain ⟨L, t0, t1, t2, t3, hsome, hT⟩ := some_rule l m0 m1 m2 m3 (by omega) (by omega) (by omega) (by omega)
  obtain ⟨hL, hchk, _⟩ := hT
  have cSome := fun W => XSome5.calls l m0 m1 m2 m3 L t0 t1 t2 t3 W hsome
  have cNew := fun W (hW : Six W) => bnew_any L t0 t1 t2 t3 W hchk hL hW
  have gb0 := fun k (_ : k < 8) => ofG_bd f 0 0 0 ⟨hf0, hf1⟩ (by omega) (by omega) (by omega) k
  have gb1 := fun k (_ : k < 8) => ofG_bd 0 0 0 f (by omega) (by omega) (by omega) ⟨hf0, hf1⟩ k
  have cOf0 := fun W => bof_any f 0 0 0 W ⟨hf0, hf1⟩ (by omega) (by omega) (by omega)
  have cOf1 := fun W => bof_any 0 0 0 f W (by omega) (by omega) (by omega) ⟨hf0, hf1⟩
  obtain ⟨u, hu⟩ : ∃ u, u = stepG L t0 t1 t2 t3 (ofG f 0 0 0) := ⟨_, rfl⟩
  obtain ⟨v, hv⟩ : ∃ v, v = stepG L t0 t1 t2 t3 (ofG 0 0 0 f) := ⟨_, rfl⟩
  have cStep0 := fun gk W h => bstep_any L t0 t1 t2 t3 (ofG f 0 0 0) gk W hL gb0 h
  have cStep1 := fun gk W h => bstep_any L t0 t1 t2 t3 (ofG 0 0 0 f) gk W hL gb1 h
  rw [← hu] at cStep0
  rw [← hv] at cStep1
  have cSt0 := fun a b W => bst_any u a b W (fun k _ => by rw [hu]; exact stepG_bd _ _ _ _ _ _ k)
  have cSt1 := fun a b W => bst_any v a b W (fun k _ => by rw [hv]; exact stepG_bd _ _ _ _ _ _ k)
  have plain := fun i j hi hj => shifts_plain L t0 t1 t2 t3 f hL hf0 i j hi hj
  rw [← hu, ← hv] at plain
  have CSOME := Aside0.mk cSome
  have CNEW := Aside0.mk cNew
  have COF0 := Aside0.mk cOf0
  have COF1 := Aside0.mk cOf1
  have CSTEP0 := Aside0.mk cStep0
  have CSTEP1 := Aside0.mk cStep1
  have CST0 := Aside0.mk cSt0
  have CST1 := Aside0.mk cSt1
  have PL := Aside0.mk plain
  have CAW := Aside0.mk (awk10_any w hG)
  have HG := Aside0.mk hG
  clear hb0 hb0' hb1 hb1' hs0 hs0' hs1 hs1' hf0 hf1 cSome cNew gb0 gb1 cOf0 cOf1 cStep0 cStep1 cSt0 cSt1 plain hu hv hG hsome hchk
  go_enter Tryd.func4, Tryd.ntmps4
  go_upto_region 1 with (fail)
  obtain ⟨w1, hw1⟩ : ∃ W, W = w.alloc (.cells #[.int .i64 l, .int .u64 (m0 : Int), .int .u64 (m1 : Int), .int .u64 (m2 : Int), .int .u64 (m3 : Int)] 25 (0, 0)) := ⟨_, rfl⟩
  have br := by have := blk_new w (.cells #[.int .i64 l, .int .u64 (m0 : Int), .int .u64 (m1 : Int), .int .u64 (m2 : Int), .int .u64 (m3 : Int)] 25 (0, 0)); rw [← hw1] at this; exact this
  have hB1 : Below w.heap.size w w1 := by rw [hw1]; exact (by with_reducible repeat (first | apply below_alloc | apply pw_below_drewN | apply below_drew | refine bset ?_ _ _ (by omega) _ | exact Below.refl _ _))
  rw [← hw1]
  obtain ⟨gr, hgr⟩ : ∃ g, g = w.heap.size := ⟨_, rfl⟩
  rw [← hgr] at br ⊢
  clear hw1 hgr
  go_wp2_with fail
  refine (awk10_any w1 (HG.out.below hB1)).mono ?_
  rintro e w2 ⟨rfl, hb2⟩
  have hB2 := hB1.trans (hb2.mono hB1.size)
  have BR2 := blk_below br hb2
  have r0 := blk_cell BR2 0
  have r1 := blk_cell BR2 1
  have r2 := blk_cell BR2 2
  have r3 := blk_cell BR2 3
  have r4 := blk_cell BR2 4
  simp only [List.getElem?_toArray, List.getElem?_cons_zero, List.getElem?_cons_succ] at r0 r1 r2 r3 r4
  clear br hb2 hB1 CAW
  go_wp2_with fail
  refine (CSOME.out _).mono ?_
  rintro e w3 ⟨rfl, hb3⟩
  have hB3 := hB2.trans (hb3.mono hB2.size)
  clear hb3 hB2 BR2 r0 r1 r2 r3 r4
  go_wp2_with fail
  refine (CNEW.out _ (HG.out.below hB3)).mono ?_
  rintro e w4 ⟨gk, rfl, hk4, _, hb4⟩
  have hB4 := hB3.trans (hb4.mono hB3.size)
  clear hb4 hB3 HG CNEW CSOME
  go_wp2_with fail
  refine (COF0.out _).mono ?_
  rintro e w5 ⟨rfl, hb5⟩
  have hB5 := hB4.trans (hb5.mono hB4.size)
  have hk5 := hk4.below hb5
  clear hb5 hB4 hk4
  go_wp2_with fail
  refine (CSTEP0.out _ _ hk5).mono ?_
  rintro e w6 ⟨rfl, hb6⟩
  have hB6 := hB5.trans (hb6.mono hB5.size)
  have hk6 := hk5.below hb6
  clear hb6 hB5 hk5
  go_upto_region 7 with (fail)
  obtain ⟨w7, hw7⟩ : ∃ W, W = w6.alloc (blkO u 52) := ⟨_, rfl⟩
  have ba7 : w7.heap[w6.heap.size]? = some (blkO u 52) := by rw [hw7]; exact blk_new _ _
  have hb7 : Below w6.heap.size w6 w7 := by rw [hw7]; exact below_alloc (Below.refl _ _) _
  rw [← hw7]
  obtain ⟨ga, hga⟩ : ∃ g, g = w6.heap.size := ⟨_, rfl⟩
  rw [← hga] at ba7 ⊢
  have hB7 := hB6.trans (hb7.mono hB6.size)
  have hk7 := hk6.below hb7
  clear hw7 hga hb7 hB6 hk6
  go_wp2_with fail
  refine (COF1.out _).mono ?_
  rintro e w8 ⟨rfl, hb8⟩
  have hB8 := hB7.trans (hb8.mono hB7.size)
  have hk8 := hk7.below hb8
  have ba8 := blk_below ba7 hb8
  clear hb8 hB7 hk7 ba7
  go_wp2_with fail
  refine (CSTEP1.out _ _ hk8).mono ?_
  rintro e w9 ⟨rfl, hb9⟩
  have hB9 := hB8.trans (hb9.mono hB8.size)
  have ba9 := blk_below ba8 hb9
  clear hb9 hB8 hk8 ba8
  go_upto_region 8 with (fail)
  obtain ⟨w10, hw10⟩ : ∃ W, W = w9.alloc (blkO v 52) := ⟨_, rfl⟩
  have bb10 : w10.heap[w9.heap.size]? = some (blkO v 52) := by rw [hw10]; exact blk_new _ _
  have hb10 : Below w9.heap.size w9 w10 := by rw [hw10]; exact below_alloc (Below.refl _ _) _
  rw [← hw10]
  obtain ⟨gb, hgb⟩ : ∃ g, g = w9.heap.size := ⟨_, rfl⟩
  rw [← hgb] at bb10 ⊢
  have hB10 := hB9.trans (hb10.mono hB9.size)
  have ba10 := blk_below ba9 hb10
  clear hw10 hgb hb10 hB9 ba9 CSTEP0 CSTEP1 COF0 COF1
  go_wp2_with fail
  go_loopw [9] (fun iv wr => ∃ i : Nat, 1 ≤ i ∧ i ≤ 3 ∧ iv = .int .i64 i ∧ wr.heap[ga]? = some (blkO u 52) ∧ wr.heap[gb]? = some (blkO v 52) ∧ Below w.heap.size w wr) (fun iv _ => 3 - (intOf iv).toNat)
  case atStart => exact ⟨1, by omega, by omega, rfl, ba10, bb10, hB10⟩
  case round =>
    obtain ⟨i, hi1, hi, rfl, ba, bb, hB⟩ := hrel
    have R := Aside0.mk (And.intro ba (And.intro bb hB))
    clear ba bb hB ba10 bb10 hB10
    by_cases hi3 : i < 3
    · have hd3 : decide ((i : Int) < 3) = true := decide_eq_true (by omega)
      go_wp2_with fail
      go_loopw [10] (fun jv wr => ∃ j : Nat, 1 ≤ j ∧ j ≤ 3 ∧ jv = .int .i64 j ∧ wr.heap[ga]? = some (blkO u 52) ∧ wr.heap[gb]? = some (blkO v 52) ∧ Below w.heap.size w wr) (fun jv _ => 3 - (intOf jv).toNat)
      case atStart => exact ⟨1, by omega, by omega, rfl, R.out⟩
      case round =>
        obtain ⟨j, hj1, hj, rfl, ba, bb, hB⟩ := hrel
        clear R
        by_cases hj3 : j < 3
        · have hpl := PL.out i j ⟨hi1, hi3⟩ ⟨hj1, hj3⟩
          have hwi : IntKind.i64.wrap ((i : Int) + 4) = (i : Int) + 4 := by rw [IntKind.wrap_i64]; omega
          have hwj : IntKind.i64.wrap ((j : Int) + 4) = (j : Int) + 4 := by rw [IntKind.wrap_i64]; omega
          have c0 := fun W => CST0.out (i : Int) (j : Int) W
          have c1 := fun W => CST1.out ((i : Int) + 4) ((j : Int) + 4) W
          rw [← hpl] at c1
          obtain ⟨s, hs⟩ : ∃ s, s = stB u (i : Int) (j : Int) := ⟨_, rfl⟩
          rw [← hs] at c0 c1
          have C0 := Aside0.mk c0
          have C1 := Aside0.mk c1
          clear c0 c1 hpl hs
          have A5 := Aside0.mk (blk_drew ba)
          have B5 := Aside0.mk (blk_drew bb)
          have HB5 := Aside0.mk (below_drew hB)
          have hS5 : S16 ga gb u v wr.drew := S16.of A5.out B5.out
          clear ba bb hB
          go_upto_region 14 with (fail)
          go_region_held3 (fun W => (W.cell? ⟨ga, 0, none⟩ = some (.int .u16 (u 0)) ∧ W.cell? ⟨ga, 1, none⟩ = some (.int .u16 (u 1)) ∧ W.cell? ⟨ga, 2, none⟩ = some (.int .u16 (u 2)) ∧ W.cell? ⟨ga, 3, none⟩ = some (.int .u16 (u 3)) ∧ W.cell? ⟨ga, 4, none⟩ = some (.int .u16 (u 4)) ∧ W.cell? ⟨ga, 5, none⟩ = some (.int .u16 (u 5)) ∧ W.cell? ⟨ga, 6, none⟩ = some (.int .u16 (u 6)) ∧ W.cell? ⟨ga, 7, none⟩ = some (.int .u16 (u 7))) ∧ (W.cell? ⟨gb, 0, none⟩ = some (.int .u16 (v 0)) ∧ W.cell? ⟨gb, 1, none⟩ = some (.int .u16 (v 1)) ∧ W.cell? ⟨gb, 2, none⟩ = some (.int .u16 (v 2)) ∧ W.cell? ⟨gb, 3, none⟩ = some (.int .u16 (v 3)) ∧ W.cell? ⟨gb, 4, none⟩ = some (.int .u16 (v 4)) ∧ W.cell? ⟨gb, 5, none⟩ = some (.int .u16 (v 5)) ∧ W.cell? ⟨gb, 6, none⟩ = some (.int .u16 (v 6)) ∧ W.cell? ⟨gb, 7, none⟩ = some (.int .u16 (v 7))))
            (with_reducible assumption)
            (first
              | (go_at_call 23
                 with_reducible refine (C0.out _).mono ?_
                 rintro e w6 ⟨rfl, hb6⟩
                 have z1 := HB5.out.size
                 replace A5 := Aside0.mk (blk_below A5.out hb6)
                 replace B5 := Aside0.mk (blk_below B5.out hb6)
                 replace HB5 := Aside0.mk (HB5.out.trans (hb6.mono z1))
                 have hS6 : S16 ga gb u v w6 := S16.of A5.out B5.out
                 clear z1 hb6)
              | (go_at_call 23
                 with_reducible refine (C1.out _).mono ?_
                 rintro e w6 ⟨rfl, hb6⟩
                 have z1 := HB5.out.size
                 replace A5 := Aside0.mk (blk_below A5.out hb6)
                 replace B5 := Aside0.mk (blk_below B5.out hb6)
                 replace HB5 := Aside0.mk (HB5.out.trans (hb6.mono z1))
                 have hS6 : S16 ga gb u v w6 := S16.of A5.out B5.out
                 clear z1 hb6))
          all_goals
            go_wp2
            go_roundw
            case rel => exact ⟨j + 1, by omega, by omega, by go_num, A5.out, B5.out, HB5.out⟩
            case measure => simp [intOf]; omega
        · obtain rfl : j = 3 := by omega
          have R := Aside0.mk (And.intro ba (And.intro bb hB))
          clear ba bb hB
          go_wp2
          go_roundw
          case rel => exact ⟨i + 1, by omega, by omega, by go_num, R.out⟩
          case measure => simp [intOf]; omega
    · obtain rfl : i = 3 := by omega
      go_wp2
      go_ret
      exact ⟨rfl, R.out.2.2⟩
open Go.ChangeShapes Go.WideShapes Go.ChangeAt
open Go.ChangeMaps (open_string shut_string)
theorem blockShifts_lifted (os : Os) (started : os.Started) (H : Type) (enc : TypeId × Value → H) :
    ReturnsInHanded {} Tryd.checked os 4 .any (fun w args => (Rows.blockShiftsSpec.pre enc Tryd.prog Tryd.f4 [] false w args ∧ laidMetH Tryd.prog laid1 w) ∧ sizedMet enc Tryd.prog Tryd.f4 (OpenSpec.ofChange Rows.blockShiftsSpec) false w args)
      (Rows.blockShiftsSpec.post enc Tryd.prog Tryd.f4 false true false false) := by
  refine returnsInHanded_of_change_and (C := Tryd.checked) (X := fun w _ => laidMetH Tryd.prog laid1 w) (fun _ _ _ hh h => h.of_heap hh) ownP started (by kernel_rfl) Tryd.func4
    (ChangeSpec.witness_shaped (enc := enc) (C := Tryd.checked) (os := os) (X := fun w _ => laidMetH Tryd.prog laid1 w) false (World.doorLaid Tryd.prog 27 os) #[.agg #[.int .i64 0, .int .u64 0, .int .u64 0, .int .u64 0, .int .u64 0], .int .u32 0] 8 rfl (World.shaped_of_RefB (by kernel_rfl) (by kernel_rfl)) (by kernel_rfl) (by kernel_rfl) (by kernel_rfl) (door_met os _)) ?_
  intro W base args ds gs before hval0 hW _ _ hL _
  have hval : ∀ (j : Nat) t v, Tryd.f4.params[j]? = some t → args[j]? = some v → Value.okWide Tryd.prog W .any base t v := hval0
  have hW' := hW
  obtain ⟨p, q, hA0, hV, rfl, hfz, hnd⟩ := hW
  have hA : DataW.TrodAll enc Tryd.prog W 0 (fun _ => true) true Tryd.f4.params.toList args.toList ds p := hA0
  rw [Tryd.params4] at hA hval
  obtain ⟨v0, vs0, d0, ds0, p0, q0, hargs, rfl, rfl, h0, r0⟩ := trodAll_cons hA
  obtain ⟨v1, vs1, d1, ds1, p1, q1, rfl, rfl, rfl, h1, r1⟩ := trodAll_cons r0
  obtain ⟨rfl, rfl, rfl⟩ := trodAll_nil r1
  obtain rfl : args = #[v0, v1] := by cases args; simp_all
  obtain ⟨rfl, rfl⟩ := trodVars_none hV
  obtain ⟨l0, a0, b0, c0, e0, rfl, rfl, rfl, wl0, wa0, wb0, wc0, we0⟩ := open_raw (hval 0 _ v0 rfl rfl) h0
  obtain ⟨a1, rfl, rfl, rfl, w1⟩ := open_int Tryd.underlying26 (hval 1 _ v1 rfl rfl) h1
  clear hA0 hval0
  refine (blockShifts_walk l0 a0 b0 c0 e0 a1 W (six_of_laid hL) (u64_rng wa0).1 (u64_rng wa0).2 (u64_rng wb0).1 (u64_rng wb0).2 (u64_rng wc0).1 (u64_rng wc0).2 (u64_rng we0).1 (u64_rng we0).2 (u32_rng w1).1 (u32_rng w1).2).mono fun e W' ⟨he, bel⟩ => ?_
  subst he
  exact ⟨_, rfl, _, _, _, [], _, [], hW', trodAll_mk1 (shut_bool Tryd.underlying4 _), (trodAll_cons_mk (shut_raw wl0 wa0 wb0 wc0 we0) (trodAll_cons_mk (shut_int Tryd.underlying26 w1) trodAll_mk0)), rfl, bel.frame _, fun h => by cases h⟩
theorem blockShifts_holds : Rows.BlockShiftsSaid :=
  OpenClaim.holds_of_wide 4 Tryd.f4 rfl rfl rfl rfl rfl rfl rfl ⟨rfl, rfl, rfl, rfl, rfl⟩ rfl rfl rfl rfl rfl (by kernel_rfl) Tryd.func4 (by kernel_rfl)
    (of_decide_eq_true (by kernel_rfl)) (by unfold Func.isWrapper; first | (rw [if_pos (by decide +kernel)]; kernel_rfl) | (rw [if_neg (by decide +kernel)]; exact ⟨rfl, rfl⟩))
    (fun os started H enc _ => blockShifts_lifted os started H enc)
theorem blockShifts_card : Rows.BlockShiftsCardSaid :=
  Claim7.holds_tied_plain_at .later [] [.data] true (true, "6a075dd8059d4d0e2579a06455ba3964e544451e9c8aadb1883d0044cb9f148a") true
    blockShifts_holds (fun _ h => by cases h) (by kernel_rfl) (fun _ h => by cases h) blockShifts_row_tie rfl ⟨rfl, rfl⟩ (by kernel_rfl) rfl
    (fun f fn hf hfn => by
      obtain rfl : f = 4 := Option.some.inj ((show Tryd.prog.funcNamed "honeycomb/honeycomblaw10.BlockShifts" = some 4 by kernel_rfl).symm.trans hf) |>.symm
      obtain rfl : fn = Tryd.f4 := (Option.some.inj (Tryd.func4.symm.trans hfn)).symm
      refine ⟨by kernel_rfl, fun j t ht => ?_⟩
      have hall : (Tryd.f4.params.toList.all fun t => !Tryd.prog.wantsStandIn t) = true := by kernel_rfl
      have hmem : t ∈ Tryd.f4.params.toList := by
        have := Array.mem_of_getElem? ht
        simpa using this
      have := List.all_eq_true.1 hall t hmem
      exact (by simpa using this : Tryd.prog.wantsStandIn t = false))
    (by kernel_rfl)
#print axioms blockShifts_card
end Go.Proofs.YtieekbdododkkaaDoor
