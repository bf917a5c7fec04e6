/- CellTurns: the walk. -/
import Derived.Test.YtdgjfkpjgllffaaDoorOnAll
import Derived.Test.YtdgjfkpjgllffaaDoorRefOnW
import Derived.Test.YtdgjfkpjgllffaaDoorAwake3
import Derived.LaidEql
namespace Go.Proofs.YtdgjfkpjgllffaaDoor
open Go.RowKit Go.Proofs.YtdgjfkpjgllffaaDoorW.PrintWords Go.Proofs.YtdgjfkpjgllffaaDoorW.PrintLast Go.Proofs.YtdgjfkpjgllffaaDoorW.PrintMore
open H
open Go.Shelf Go.RowKit Go.Lib Go.Sort

/-- two codes as errors: the same just if the numbers are -/
theorem codeInfo : ((Tryd.prog.info? 59).map (·.comparable)) = some true := by kernel_rfl
theorem eqErr (a b : Int) (w : World) : (binOp .eql 34 (.iface 59 (.int .i64 a)) (.iface 59 (.int .i64 b))).run Tryd.prog w = .ok (.bool (a == b)) w := by
  have hi := Tryd.underlying34
  have hn := Tryd.underlying59
  obtain ⟨i, hinfo, hcomp⟩ := Option.map_eq_some_iff.1 codeInfo
  have hin : ∀ d, (Op.equalIn (d + 2) 34 (.iface 59 (.int .i64 a)) (.iface 59 (.int .i64 b))).run Tryd.prog w = .ok (a == b) w := fun d => by
    simp [Op.equalIn, run_underlying hi, run_underlying hn, typeInfo, hinfo, hcomp]
  simp only [binOp]
  simp [Op.equal, Op.maxDepth, hin 9998]

theorem told_any (a b h : Int) (w : World) : Calls Tryd.prog 21 #[.agg #[.int .i64 a, .int .i64 b, .int .i64 h]] w fun e w' => e = .returned (.agg #[.int .i64 a, .int .i64 b, .int .i64 h]) ∧ Below w.heap.size w w' := by
  go_enter Tryd.func21, Tryd.ntmps21
  go_wp2
  exact bodyPost_ret (v := .agg #[.int .i64 a, .int .i64 b, .int .i64 h]) (by simp [results, Tryd.results21, go_sem]) rfl ⟨rfl, (by with_reducible repeat (first | apply below_alloc | apply pw_below_drewN | apply below_drew | refine bset ?_ _ _ (by omega) _ | exact Below.refl _ _))⟩

theorem checkR_codes {l a b h c : Int} (hc : checkR l a b h = some c) : c = 4 ∨ c = 6 ∨ c = 11 := by
  unfold checkR at hc
  split at hc
  · by_cases h1 : h < 0 ∨ (if l = 1 then 1 else 2) ≤ h
    · rw [if_pos h1] at hc
      have := Option.some.inj hc
      omega
    · rw [if_neg h1] at hc
      by_cases h2 : goodP a b
      · rw [if_pos h2] at hc
        cases hc
      · rw [if_neg h2] at hc
        have := Option.some.inj hc
        omega
  · have := Option.some.inj hc
    omega

attribute [local go_sem high] eqCell
set_option maxRecDepth 100000 in
set_option maxHeartbeats 4000000 in
/-- where On refuses with the code c, and the document says so too -/
theorem turns_code (l o a b h c : Int) (w : World) (hG : Six w) (hE : Et w) (hc : c = 4 ∨ c = 6 ∨ c = 11)
    (hon : ∀ W, Calls Tryd.prog 17 #[.int .i64 l, .int .i64 o, .agg #[.int .i64 a, .int .i64 b, .int .i64 h]] W fun e w' => e = .returned (.tuple #[.agg #[.int .i64 0, .int .i64 0, .int .i64 0], .iface 59 (.int .i64 c)]) ∧ Below W.heap.size W w')
    (hw : checkR l a b h = some c ∨ (checkR l a b h = none ∧ ¬ (0 ≤ o ∧ o < 12) ∧ c = 4)) :
    Calls Tryd.prog 11 #[.int .i64 l, .int .i64 o, .agg #[.int .i64 a, .int .i64 b, .int .i64 h]] w fun e w' => e = .returned (.bool true) ∧ Below w.heap.size w w' := by
  have hrc := fun W => rcheck_any l a b h W
  have hcd := fun W hW => codeOf_any (some c) W hW
  simp only [errW_some, Option.getD_some] at hcd
  have hc0 : ¬ c = 0 := by omega
  obtain ⟨v0, hv0⟩ : ∃ v0, v0 = (checkR l a b h).getD 0 := ⟨_, rfl⟩
  rw [← hv0] at hrc
  have hcase : v0 = c ∨ (v0 = 0 ∧ (o < 0 ∨ 11 < o) ∧ c = 4) := by
    rcases hw with h1 | ⟨h1, h2, h3⟩
    · left; rw [hv0, h1]; rfl
    · right; exact ⟨by rw [hv0, h1]; rfl, by omega, h3⟩
  clear hv0 hw hc
  have hcase3 : v0 = c ∨ (v0 = 0 ∧ o < 0 ∧ c = 4) ∨ (v0 = 0 ∧ 11 < o ∧ c = 4) := by omega
  clear hcase
  rcases hcase3 with rfl | ⟨rfl, ho, rfl⟩ | ⟨rfl, ho, rfl⟩
  all_goals
    go_enter Tryd.func11, Tryd.ntmps11
    go_wp2_with fail
    obtain ⟨w1, hw1, hcc, hsz, hB1⟩ := one_new w #[.int .i64 a, .int .i64 b, .int .i64 h] 23
    rw [← hw1]
    clear hw1
    have d0 : w1.cell? ⟨w.heap.size, 0, none⟩ = some (.int .i64 a) := hcc 0 _ rfl
    have d1 : w1.cell? ⟨w.heap.size, 1, none⟩ = some (.int .i64 b) := hcc 1 _ rfl
    have d2 : w1.cell? ⟨w.heap.size, 2, none⟩ = some (.int .i64 h) := hcc 2 _ rfl
    have G1 := Aside0.mk (hG.below hB1)
    have E1 := Aside0.mk (hE.below hB1)
    have HB1 := Aside0.mk hB1
    clear hcc hB1 hG hE
    go_wp2_with (first
      | (go_at_call 12; refine (awake_any _ G1.out).mono ?_; rintro e w2 ⟨rfl, hb2⟩
         have d0 := pw_cell_below hb2 d0
         have d1 := pw_cell_below hb2 d1
         have d2 := pw_cell_below hb2 d2
         have E2 := Aside0.mk (E1.out.below hb2)
         have HB2 := Aside0.mk (HB1.out.trans (hb2.mono HB1.out.size))
         clear hb2)
      | (go_at_call 29; refine (own_any _ _ _ _).mono ?_; rintro e w3 ⟨rfl, hb3⟩
         have d0 := pw_cell_below hb3 d0
         have d1 := pw_cell_below hb3 d1
         have d2 := pw_cell_below hb3 d2
         have E3 := Aside0.mk (E2.out.below hb3)
         have HB3 := Aside0.mk (HB2.out.trans (hb3.mono HB2.out.size))
         clear hb3)
      | (go_at_call 17; refine (hon _).mono ?_; rintro e w4 ⟨rfl, hb4⟩
         have d0 := pw_cell_below hb4 d0
         have d1 := pw_cell_below hb4 d1
         have d2 := pw_cell_below hb4 d2
         have E4 := Aside0.mk (E3.out.below hb4)
         have HB4 := Aside0.mk (HB3.out.trans (hb4.mono HB3.out.size))
         have hz4 : w.heap.size < w4.heap.size := World.block_lt_of_cell? w4 ⟨w.heap.size, 0, none⟩ d0
         clear hb4))
    obtain ⟨w5, hw5, hcc, hsz5, hB5⟩ := one_new w4 #[.int .i64 0, .int .i64 0, .int .i64 0] 30
    rw [← hw5]
    have e0 : w5.cell? ⟨w4.heap.size, 0, none⟩ = some (.int .i64 0) := hcc 0 _ rfl
    have e1 : w5.cell? ⟨w4.heap.size, 1, none⟩ = some (.int .i64 0) := hcc 1 _ rfl
    have e2 : w5.cell? ⟨w4.heap.size, 2, none⟩ = some (.int .i64 0) := hcc 2 _ rfl
    have E5 := Aside0.mk (E4.out.below hB5)
    have HB5 := Aside0.mk (HB4.out.trans (hB5.mono HB4.out.size))
    clear hw5 hcc hB5
    go_wp2_with (first
      | (go_at_call 30; refine (hrc _).mono ?_; rintro e w6 ⟨rfl, hb6⟩
         have e0 := pw_cell_below hb6 e0
         have e1 := pw_cell_below hb6 e1
         have e2 := pw_cell_below hb6 e2
         have E6 := Aside0.mk (E5.out.below hb6)
         have HB6 := Aside0.mk (HB5.out.trans (hb6.mono HB5.out.size))
         clear hb6)
      | (go_at_call 27; refine (hcd _ E6.out).mono ?_; rintro e w7 ⟨rfl, hb7⟩
         have e0 := pw_cell_below hb7 e0
         have e1 := pw_cell_below hb7 e1
         have e2 := pw_cell_below hb7 e2
         have HB7 := Aside0.mk (HB6.out.trans (hb7.mono HB6.out.size))
         clear hb7))
    go_ret
    exact ⟨rfl, HB7.out⟩

set_option maxRecDepth 100000 in
set_option maxHeartbeats 4000000 in
/-- where On brings a cell beyond -/
theorem turns_far (l o a b h x y z : Int) (w : World) (hG : Six w) (ho : 0 ≤ o) (ho' : o < 12)
    (hon : ∀ W, Calls Tryd.prog 17 #[.int .i64 l, .int .i64 o, .agg #[.int .i64 a, .int .i64 b, .int .i64 h]] W fun e w' => e = .returned (.tuple #[.agg #[.int .i64 0, .int .i64 0, .int .i64 0], .iface 59 (.int .i64 6)]) ∧ Below W.heap.size W w')
    (href : ∀ W, Calls Tryd.prog 37 #[.int .i64 l, .int .i64 o, .agg #[.int .i64 a, .int .i64 b, .int .i64 h]] W fun e w' => e = .returned (.agg #[.int .i64 x, .int .i64 y, .int .i64 z]) ∧ Below W.heap.size W w')
    (hw : checkR l a b h = none) (hx : checkR l x y z = some 6) :
    Calls Tryd.prog 11 #[.int .i64 l, .int .i64 o, .agg #[.int .i64 a, .int .i64 b, .int .i64 h]] w fun e w' => e = .returned (.bool true) ∧ Below w.heap.size w w' := by
  have hrc := fun W => rcheck_any l a b h W
  simp only [hw, Option.getD_none] at hrc
  have hrx := fun W => rcheck_any l x y z W
  simp only [hx, Option.getD_some] at hrx
  have heq := eqErr 6 6
  go_enter Tryd.func11, Tryd.ntmps11
  go_wp2_with fail
  obtain ⟨w1, hw1, hcc, hsz, hB1⟩ := one_new w #[.int .i64 a, .int .i64 b, .int .i64 h] 23
  rw [← hw1]
  clear hw1
  have d0 : w1.cell? ⟨w.heap.size, 0, none⟩ = some (.int .i64 a) := hcc 0 _ rfl
  have d1 : w1.cell? ⟨w.heap.size, 1, none⟩ = some (.int .i64 b) := hcc 1 _ rfl
  have d2 : w1.cell? ⟨w.heap.size, 2, none⟩ = some (.int .i64 h) := hcc 2 _ rfl
  have G1 := Aside0.mk (hG.below hB1)
  have HB1 := Aside0.mk hB1
  clear hcc hB1 hG
  go_wp2_with (first
    | (go_at_call 12; refine (awake_any _ G1.out).mono ?_; rintro e w2 ⟨rfl, hb2⟩
       have d0 := pw_cell_below hb2 d0
       have d1 := pw_cell_below hb2 d1
       have d2 := pw_cell_below hb2 d2
       have HB2 := Aside0.mk (HB1.out.trans (hb2.mono HB1.out.size))
       clear hb2)
    | (go_at_call 29; refine (own_any _ _ _ _).mono ?_; rintro e w3 ⟨rfl, hb3⟩
       have d0 := pw_cell_below hb3 d0
       have d1 := pw_cell_below hb3 d1
       have d2 := pw_cell_below hb3 d2
       have HB3 := Aside0.mk (HB2.out.trans (hb3.mono HB2.out.size))
       clear hb3)
    | (go_at_call 17; refine (hon _).mono ?_; rintro e w4 ⟨rfl, hb4⟩
       have d0 := pw_cell_below hb4 d0
       have d1 := pw_cell_below hb4 d1
       have d2 := pw_cell_below hb4 d2
       have HB4 := Aside0.mk (HB3.out.trans (hb4.mono HB3.out.size))
       have hz4 : w.heap.size < w4.heap.size := World.block_lt_of_cell? w4 ⟨w.heap.size, 0, none⟩ d0
       clear hb4))
  obtain ⟨w5, hw5, hcc, hsz5, hB5⟩ := one_new w4 #[.int .i64 (0), .int .i64 (0), .int .i64 (0)] 30
  rw [← hw5]
  have d0 := pw_cell_below hB5 d0
  have d1 := pw_cell_below hB5 d1
  have d2 := pw_cell_below hB5 d2
  have e0 : w5.cell? ⟨w4.heap.size, 0, none⟩ = some (.int .i64 (0)) := hcc 0 _ rfl
  have e1 : w5.cell? ⟨w4.heap.size, 1, none⟩ = some (.int .i64 (0)) := hcc 1 _ rfl
  have e2 : w5.cell? ⟨w4.heap.size, 2, none⟩ = some (.int .i64 (0)) := hcc 2 _ rfl
  have HB5 := Aside0.mk (HB4.out.trans (hB5.mono HB4.out.size))
  clear hw5 hcc hB5
  go_wp2_with (first
    | (go_at_call 30; (with_reducible refine (hrc _).mono ?_); rintro e w6 ⟨rfl, hb6⟩
       have d0 := pw_cell_below hb6 d0
       have d1 := pw_cell_below hb6 d1
       have d2 := pw_cell_below hb6 d2
       have e0 := pw_cell_below hb6 e0
       have e1 := pw_cell_below hb6 e1
       have e2 := pw_cell_below hb6 e2
       have HB6 := Aside0.mk (HB5.out.trans (hb6.mono HB5.out.size))
       clear hb6)
    | (go_at_call 37; refine (href _).mono ?_; rintro e w7 ⟨rfl, hb7⟩
       have e0 := pw_cell_below hb7 e0
       have e1 := pw_cell_below hb7 e1
       have e2 := pw_cell_below hb7 e2
       have HB7 := Aside0.mk (HB6.out.trans (hb7.mono HB6.out.size))
       have hz7 : w4.heap.size < w7.heap.size := World.block_lt_of_cell? w7 ⟨w4.heap.size, 0, none⟩ e0
       clear hb7))
  obtain ⟨w8, hw8, hcc, hsz8, hB8⟩ := one_new w7 #[.int .i64 x, .int .i64 y, .int .i64 z] 23
  rw [← hw8]
  have f0 : w8.cell? ⟨w7.heap.size, 0, none⟩ = some (.int .i64 x) := hcc 0 _ rfl
  have f1 : w8.cell? ⟨w7.heap.size, 1, none⟩ = some (.int .i64 y) := hcc 1 _ rfl
  have f2 : w8.cell? ⟨w7.heap.size, 2, none⟩ = some (.int .i64 z) := hcc 2 _ rfl
  have e0 := pw_cell_below hB8 e0
  have e1 := pw_cell_below hB8 e1
  have e2 := pw_cell_below hB8 e2
  have HB8 := Aside0.mk (HB7.out.trans (hB8.mono HB7.out.size))
  clear hw8 hcc hB8
  refine (hrx _).mono ?_
  rintro e w9 ⟨rfl, hb9⟩
  have e0 := pw_cell_below hb9 e0
  have e1 := pw_cell_below hb9 e1
  have e2 := pw_cell_below hb9 e2
  have f0 := pw_cell_below hb9 f0
  have f1 := pw_cell_below hb9 f1
  have f2 := pw_cell_below hb9 f2
  have HB9 := Aside0.mk (HB8.out.trans (hb9.mono HB8.out.size))
  clear hb9
  go_wp2_with fail
  go_ret
  exact ⟨rfl, HB9.out⟩

/-- the two cells lie, and nothing has turned that was there -/
abbrev S6 (B : Nat) (w0 : World) (g k : Nat) (x y z : Int) (W : World) : Prop :=
  W.cell? ⟨g, 0, none⟩ = some (.int .i64 x) ∧ W.cell? ⟨g, 1, none⟩ = some (.int .i64 y) ∧ W.cell? ⟨g, 2, none⟩ = some (.int .i64 z) ∧ W.cell? ⟨k, 0, none⟩ = some (.int .i64 x) ∧ W.cell? ⟨k, 1, none⟩ = some (.int .i64 y) ∧ W.cell? ⟨k, 2, none⟩ = some (.int .i64 z) ∧ Below B w0 W ∧ B ≤ W.heap.size
theorem S6.below {B : Nat} {w0 : World} {g k : Nat} {x y z : Int} {W w1 : World} (h : S6 B w0 g k x y z W) (hb : Below W.heap.size W w1) : S6 B w0 g k x y z w1 := by
  obtain ⟨h0, h1, h2, h3, h4, h5, h6, h7⟩ := h
  exact ⟨pw_cell_below hb h0, pw_cell_below hb h1, pw_cell_below hb h2, pw_cell_below hb h3, pw_cell_below hb h4, pw_cell_below hb h5, h6.trans (hb.mono h7), Nat.le_trans h7 hb.size⟩

set_option maxRecDepth 100000 in
set_option maxHeartbeats 4000000 in
/-- where On brings a cell -/
theorem turns_near (l o a b h x y z : Int) (w : World) (hG : Six w) (ho : 0 ≤ o) (ho' : o < 12)
    (hon : ∀ W, Calls Tryd.prog 17 #[.int .i64 l, .int .i64 o, .agg #[.int .i64 a, .int .i64 b, .int .i64 h]] W fun e w' => e = .returned (.tuple #[.agg #[.int .i64 x, .int .i64 y, .int .i64 z], .nilIface]) ∧ Below W.heap.size W w')
    (href : ∀ W, Calls Tryd.prog 37 #[.int .i64 l, .int .i64 o, .agg #[.int .i64 a, .int .i64 b, .int .i64 h]] W fun e w' => e = .returned (.agg #[.int .i64 x, .int .i64 y, .int .i64 z]) ∧ Below W.heap.size W w')
    (hw : checkR l a b h = none) (hx : checkR l x y z = none) :
    Calls Tryd.prog 11 #[.int .i64 l, .int .i64 o, .agg #[.int .i64 a, .int .i64 b, .int .i64 h]] w fun e w' => e = .returned (.bool true) ∧ Below w.heap.size w w' := by
  have hrc := fun W => rcheck_any l a b h W
  simp only [hw, Option.getD_none] at hrc
  have hrx := fun W => rcheck_any l x y z W
  simp only [hx, Option.getD_none] at hrx
  go_enter Tryd.func11, Tryd.ntmps11
  go_wp2_with fail
  obtain ⟨w1, hw1, hcc, hsz, hB1⟩ := one_new w #[.int .i64 a, .int .i64 b, .int .i64 h] 23
  rw [← hw1]
  clear hw1
  have d0 : w1.cell? ⟨w.heap.size, 0, none⟩ = some (.int .i64 a) := hcc 0 _ rfl
  have d1 : w1.cell? ⟨w.heap.size, 1, none⟩ = some (.int .i64 b) := hcc 1 _ rfl
  have d2 : w1.cell? ⟨w.heap.size, 2, none⟩ = some (.int .i64 h) := hcc 2 _ rfl
  have G1 := Aside0.mk (hG.below hB1)
  have HB1 := Aside0.mk hB1
  clear hcc hB1 hG
  go_wp2_with (first
    | (go_at_call 12; refine (awake_any _ G1.out).mono ?_; rintro e w2 ⟨rfl, hb2⟩
       have d0 := pw_cell_below hb2 d0
       have d1 := pw_cell_below hb2 d1
       have d2 := pw_cell_below hb2 d2
       have HB2 := Aside0.mk (HB1.out.trans (hb2.mono HB1.out.size))
       clear hb2)
    | (go_at_call 29; refine (own_any _ _ _ _).mono ?_; rintro e w3 ⟨rfl, hb3⟩
       have d0 := pw_cell_below hb3 d0
       have d1 := pw_cell_below hb3 d1
       have d2 := pw_cell_below hb3 d2
       have HB3 := Aside0.mk (HB2.out.trans (hb3.mono HB2.out.size))
       clear hb3)
    | (go_at_call 17; refine (hon _).mono ?_; rintro e w4 ⟨rfl, hb4⟩
       have d0 := pw_cell_below hb4 d0
       have d1 := pw_cell_below hb4 d1
       have d2 := pw_cell_below hb4 d2
       have HB4 := Aside0.mk (HB3.out.trans (hb4.mono HB3.out.size))
       have hz4 : w.heap.size < w4.heap.size := World.block_lt_of_cell? w4 ⟨w.heap.size, 0, none⟩ d0
       clear hb4))
  obtain ⟨w5, hw5, hcc, hsz5, hB5⟩ := one_new w4 #[.int .i64 (x), .int .i64 (y), .int .i64 (z)] 30
  rw [← hw5]
  have d0 := pw_cell_below hB5 d0
  have d1 := pw_cell_below hB5 d1
  have d2 := pw_cell_below hB5 d2
  have e0 : w5.cell? ⟨w4.heap.size, 0, none⟩ = some (.int .i64 (x)) := hcc 0 _ rfl
  have e1 : w5.cell? ⟨w4.heap.size, 1, none⟩ = some (.int .i64 (y)) := hcc 1 _ rfl
  have e2 : w5.cell? ⟨w4.heap.size, 2, none⟩ = some (.int .i64 (z)) := hcc 2 _ rfl
  have HB5 := Aside0.mk (HB4.out.trans (hB5.mono HB4.out.size))
  clear hw5 hcc hB5
  go_wp2_with (first
    | (go_at_call 30; (with_reducible refine (hrc _).mono ?_); rintro e w6 ⟨rfl, hb6⟩
       have d0 := pw_cell_below hb6 d0
       have d1 := pw_cell_below hb6 d1
       have d2 := pw_cell_below hb6 d2
       have e0 := pw_cell_below hb6 e0
       have e1 := pw_cell_below hb6 e1
       have e2 := pw_cell_below hb6 e2
       have HB6 := Aside0.mk (HB5.out.trans (hb6.mono HB5.out.size))
       clear hb6)
    | (go_at_call 37; refine (href _).mono ?_; rintro e w7 ⟨rfl, hb7⟩
       have e0 := pw_cell_below hb7 e0
       have e1 := pw_cell_below hb7 e1
       have e2 := pw_cell_below hb7 e2
       have HB7 := Aside0.mk (HB6.out.trans (hb7.mono HB6.out.size))
       have hz7 : w4.heap.size < w7.heap.size := World.block_lt_of_cell? w7 ⟨w4.heap.size, 0, none⟩ e0
       clear hb7))
  obtain ⟨w8, hw8, hcc, hsz8, hB8⟩ := one_new w7 #[.int .i64 x, .int .i64 y, .int .i64 z] 23
  rw [← hw8]
  have f0 : w8.cell? ⟨w7.heap.size, 0, none⟩ = some (.int .i64 x) := hcc 0 _ rfl
  have f1 : w8.cell? ⟨w7.heap.size, 1, none⟩ = some (.int .i64 y) := hcc 1 _ rfl
  have f2 : w8.cell? ⟨w7.heap.size, 2, none⟩ = some (.int .i64 z) := hcc 2 _ rfl
  have e0 := pw_cell_below hB8 e0
  have e1 := pw_cell_below hB8 e1
  have e2 := pw_cell_below hB8 e2
  have HB8 := Aside0.mk (HB7.out.trans (hB8.mono HB7.out.size))
  clear hw8 hcc hB8
  refine (hrx _).mono ?_
  rintro e w9 ⟨rfl, hb9⟩
  have e0 := pw_cell_below hb9 e0
  have e1 := pw_cell_below hb9 e1
  have e2 := pw_cell_below hb9 e2
  have f0 := pw_cell_below hb9 f0
  have f1 := pw_cell_below hb9 f1
  have f2 := pw_cell_below hb9 f2
  have HB9 := Aside0.mk (HB8.out.trans (hb9.mono HB8.out.size))
  clear hb9
  go_wp2_with fail
  have hS : S6 w9.heap.size w9 w4.heap.size w7.heap.size x y z w9.drew := ⟨e0, e1, e2, f0, f1, f2, below_drew (Below.refl _ _), Nat.le_refl _⟩
  have hto := told_any x y z
  go_region_held3 (fun W => W.cell? ⟨w4.heap.size, 0, none⟩ = some (.int .i64 x) ∧ W.cell? ⟨w4.heap.size, 1, none⟩ = some (.int .i64 y) ∧ W.cell? ⟨w4.heap.size, 2, none⟩ = some (.int .i64 z) ∧ W.cell? ⟨w7.heap.size, 0, none⟩ = some (.int .i64 x) ∧ W.cell? ⟨w7.heap.size, 1, none⟩ = some (.int .i64 y) ∧ W.cell? ⟨w7.heap.size, 2, none⟩ = some (.int .i64 z) ∧ Below w9.heap.size w9 W ∧ w9.heap.size ≤ W.heap.size)
    (assumption)
    (first
      | (go_at_call 21; refine (hto _).mono ?_; rintro e w10 ⟨rfl, hb10⟩; have hS10 := S6.below (by assumption) hb10; clear hb10))
  all_goals
    go_wp2
    go_ret
    refine ⟨by simp, ?_⟩
    exact HB9.out.trans ((by assumption : S6 w9.heap.size w9 w4.heap.size w7.heap.size x y z _).2.2.2.2.2.2.1.mono HB9.out.size)

theorem checkR_none {l a b h : Int} (hc : checkR l a b h = none) : 1 ≤ l ∧ l ≤ 3 ∧ goodP a b ∧ 0 ≤ h ∧ h ≤ 1 ∧ (l = 1 → h = 0) := by
  unfold checkR at hc
  by_cases h0 : 1 ≤ l ∧ l ≤ 3
  · rw [if_pos h0] at hc
    by_cases h1 : h < 0 ∨ (if l = 1 then 1 else 2) ≤ h
    · rw [if_pos h1] at hc
      cases hc
    · rw [if_neg h1] at hc
      by_cases h2 : goodP a b
      · by_cases hl : l = 1
        · rw [if_pos hl] at h1
          exact ⟨h0.1, h0.2, h2, by omega, by omega, fun _ => by omega⟩
        · rw [if_neg hl] at h1
          exact ⟨h0.1, h0.2, h2, by omega, by omega, fun e => absurd e hl⟩
      · rw [if_neg h2] at hc
        cases hc
  · rw [if_neg h0] at hc
    cases hc
theorem checkR_of {l x y z : Int} (h1 : 1 ≤ l) (h2 : l ≤ 3) (h3 : 0 ≤ z) (h4 : z ≤ 1) (h5 : l = 1 → z = 0) : checkR l x y z = if goodP x y then none else some 6 := by
  unfold checkR
  rw [if_pos ⟨h1, h2⟩, if_neg ?_]
  by_cases hl : l = 1
  · rw [if_pos hl, h5 hl]
    omega
  · rw [if_neg hl]
    omega

theorem turns_walk (l o a b h : Int) (w : World) (hG : Six w) (hE : Et w) :
    Calls Tryd.prog 11 #[.int .i64 l, .int .i64 o, .agg #[.int .i64 a, .int .i64 b, .int .i64 h]] w fun e w' => e = .returned (.bool true) ∧ Below w.heap.size w w' := by
  cases hc : checkR l a b h with
  | some c => exact turns_code l o a b h c w hG hE (checkR_codes hc) (fun W => on_refused l o a b h c W hc) (.inl hc)
  | none =>
    by_cases ho : 0 ≤ o ∧ o < 12
    · obtain ⟨h1, h2, hg, h3, h4, h5⟩ := checkR_none hc
      by_cases hl : l = 1
      · subst hl
        have h0 := h5 rfl
        have hrot := rot_onP o a b ho.1 ho.2
        have hx := checkR_of (l := 1) (x := (onP o a b).1) (y := (onP o a b).2) (z := 0) (by omega) (by omega) (by omega) (by omega) (fun _ => rfl)
        have href := fun W => refOnH_any o a b h W hg ho.1 ho.2
        rw [← hrot] at href
        have hon := fun W => onH_any o a b h h0 W hg ho.1 ho.2
        by_cases hq : goodP (onP o a b).1 (onP o a b).2
        · rw [if_pos hq] at hx
          simp only [hq, ↓reduceIte] at hon
          exact turns_near 1 o a b h _ _ 0 w hG ho.1 ho.2 hon href hc hx
        · rw [if_neg hq] at hx
          simp only [hq, ↓reduceIte] at hon
          exact turns_far 1 o a b h _ _ 0 w hG ho.1 ho.2 hon href hc hx
      · have hz : 0 ≤ (onT o a b h).f1 ∧ (onT o a b h).f1 ≤ 1 := by
          have := thr_mod o a b h h3 h4 (o % 6).toNat
          unfold onT
          simp only []
          omega
        have hx := checkR_of (l := l) (x := (onT o a b h).f0.f0) (y := (onT o a b h).f0.f1) (z := (onT o a b h).f1) h1 h2 hz.1 hz.2 (fun e => absurd e hl)
        have href := fun W => refOnT_any l o a b h W (by omega) h2 ho.1 ho.2 hg (by omega)
        rw [refOn_eq o a b h ho.1 ho.2 hg (by omega)] at href
        have hon := fun W => onT_any l o a b h W (by omega) h2 ho.1 ho.2 hg h3 h4
        by_cases hq : goodP (onT o a b h).f0.f0 (onT o a b h).f0.f1
        · rw [if_pos hq] at hx
          simp only [hq, ↓reduceIte] at hon
          exact turns_near l o a b h _ _ _ w hG ho.1 ho.2 hon href hc hx
        · rw [if_neg hq] at hx
          simp only [hq, ↓reduceIte] at hon
          exact turns_far l o a b h _ _ _ w hG ho.1 ho.2 hon href hc hx
    · exact turns_code l o a b h 4 w hG hE (.inl rfl) (fun W => on_badop l o a b h W hc ho) (.inr ⟨hc, ho, rfl⟩)
end Go.Proofs.YtdgjfkpjgllffaaDoor
