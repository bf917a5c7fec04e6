/- May a point, a cell be: the contracts. -/
import Derived.Test.YtaeenefdbahfoaaDoorSort
import Derived.Test.YtaeenefdbahfoaaDoorHCell0
namespace Go.Proofs.YtaeenefdbahfoaaDoor
open Go.RowKit Go.Proofs.YtaeenefdbahfoaaDoorW.PrintWords Go.Proofs.YtaeenefdbahfoaaDoorW.PrintLast Go.Proofs.YtaeenefdbahfoaaDoorW.PrintMore
open H
open Go.RowKit

abbrev CL := S65
def mk (a b h : Int) : CL := ⟨⟨a, b⟩, h⟩
def sh (a b : Int) (x : CL) : CL := ⟨⟨a + x.f0.f0, b + x.f0.f1⟩, x.f1⟩
theorem w64i (x : Int) (h1 : -9223372036854775808 ≤ x) (h2 : x ≤ 9223372036854775807) : wrap64 x = x := by unfold wrap64; omega
def goodP (a b : Int) : Prop := -1099511627776 ≤ a ∧ a ≤ 1099511627776 ∧ -1099511627776 ≤ b ∧ b ≤ 1099511627776
instance (a b : Int) : Decidable (goodP a b) := by unfold goodP; infer_instance

set_option maxHeartbeats 1000000 in
theorem good_any (a b : Int) (w : World) : Calls Tryd.prog 92 #[.agg #[.int .i64 a, .int .i64 b]] w fun e w' => e = .returned (.bool (decide (goodP a b))) ∧ Below w.heap.size w w' := by
  by_cases h : goodP a b
  · rw [decide_eq_true h]
    obtain ⟨h1, h2, h3, h4⟩ := h
    go_enter Tryd.func92, Tryd.ntmps92
    go_wp2
    go_ret
    exact ⟨rfl, (by with_reducible repeat (first | apply below_alloc | apply pw_below_drewN | apply below_drew | refine bset ?_ _ _ (by omega) _ | exact Below.refl _ _))⟩
  · rw [decide_eq_false h]
    simp only [goodP] at h
    go_enter Tryd.func92, Tryd.ntmps92
    go_wp2
    all_goals (first | (exfalso; omega) | (go_ret; exact ⟨by simp; try omega, (by with_reducible repeat (first | apply below_alloc | apply pw_below_drewN | apply below_drew | refine bset ?_ _ _ (by omega) _ | exact Below.refl _ _))⟩))

def checkR (l a b h : Int) : Option Int := if 1 ≤ l ∧ l ≤ 3 then (if h < 0 ∨ (if l = 1 then 1 else 2) ≤ h then some 4 else if goodP a b then none else some 6) else some 11

def halvesR (l : Int) : Int := if l = 1 then 1 else 2
theorem halves_any (l : Int) (w : World) : Calls Tryd.prog 87 #[.int .i64 l] w fun e w' => e = .returned (.int .i64 (halvesR l)) ∧ w' = w := by
  by_cases h : l = 1
  all_goals
    simp only [halvesR, h, ↓reduceIte]
    go_enter Tryd.func87, Tryd.ntmps87
    go_wp2
    go_ret
    exact ⟨rfl, rfl⟩
theorem lgood_any (l : Int) (w : World) : Calls Tryd.prog 80 #[.int .i64 l] w fun e w' => e = .returned (.bool (decide (1 ≤ l ∧ l ≤ 3))) ∧ w' = w := by
  by_cases h : 1 ≤ l ∧ l ≤ 3
  · rw [decide_eq_true h]
    obtain ⟨h1, h2⟩ := h
    go_enter Tryd.func80, Tryd.ntmps80
    go_wp2
    go_ret
    exact ⟨rfl, rfl⟩
  · rw [decide_eq_false h]
    go_enter Tryd.func80, Tryd.ntmps80
    go_wp2
    all_goals (first | (exfalso; omega) | (go_ret; exact ⟨by simp; try omega, rfl⟩))

set_option maxHeartbeats 1000000 in
theorem check_any (l a b h : Int) (w : World) : Calls Tryd.prog 81 #[.int .i64 l, .agg #[.int .i64 a, .int .i64 b, .int .i64 h]] w fun e w' => e = .returned (errW (checkR l a b h)) ∧ Below w.heap.size w w' := by
  have hl := lgood_any l
  have hh := halves_any l
  have hg := good_any a b
  unfold checkR
  by_cases h1 : 1 ≤ l ∧ l ≤ 3
  · rw [if_pos h1]
    rw [decide_eq_true h1] at hl
    have h2' : 1 ≤ halvesR l ∧ halvesR l ≤ 2 := by unfold halvesR; split <;> omega
    by_cases h2 : h < 0 ∨ (if l = 1 then 1 else 2) ≤ h
    · rw [if_pos h2]
      change h < 0 ∨ halvesR l ≤ h at h2
      by_cases h3 : h < 0
      · have hd : decide (h < 0) = true := decide_eq_true h3
        go_enter Tryd.func81, Tryd.ntmps81
        go_wp2_with (go_at_call 80; refine (hl _).mono ?_; rintro e w' ⟨rfl, rfl⟩)
        go_quiet (first | (go_at_call 87; exact Calls.quiet_of_same (hh _)))
        go_wp2
        go_ret
        exact ⟨rfl, (by with_reducible repeat (first | apply below_alloc | apply pw_below_drewN | apply below_drew | refine bset ?_ _ _ (by omega) _ | exact Below.refl _ _))⟩
      · have hd : decide (h < 0) = false := decide_eq_false h3
        have h4 : halvesR l ≤ h := by omega
        generalize halvesR l = hv at hh h4 h2'
        go_enter Tryd.func81, Tryd.ntmps81
        go_wp2_with (go_at_call 80; refine (hl _).mono ?_; rintro e w' ⟨rfl, rfl⟩)
        go_quiet (first | (go_at_call 87; exact Calls.quiet_of_same (hh _)))
        go_wp2
        go_ret
        exact ⟨rfl, (by with_reducible repeat (first | apply below_alloc | apply pw_below_drewN | apply below_drew | refine bset ?_ _ _ (by omega) _ | exact Below.refl _ _))⟩
    · rw [if_neg h2]
      change ¬ (h < 0 ∨ halvesR l ≤ h) at h2
      have hd : decide (h < 0) = false := decide_eq_false (by omega)
      have h4 : h < halvesR l := by omega
      have h5 : 0 ≤ h := by omega
      generalize halvesR l = hv at hh h4 h2'
      by_cases h6 : goodP a b
      · rw [if_pos h6]
        rw [decide_eq_true h6] at hg
        go_enter Tryd.func81, Tryd.ntmps81
        go_wp2_with (go_at_call 80; refine (hl _).mono ?_; rintro e w' ⟨rfl, rfl⟩)
        go_quiet (first | (go_at_call 87; exact Calls.quiet_of_same (hh _)))
        go_wp2_with (go_at_call 92; refine (hg _).mono ?_; rintro e w' ⟨rfl, hb⟩)
        go_ret
        exact ⟨rfl, Below.trans (by with_reducible repeat (first | apply below_alloc | apply pw_below_drewN | apply below_drew | refine bset ?_ _ _ (by omega) _ | exact Below.refl _ _)) (hb.mono (by simp))⟩
      · rw [if_neg h6]
        rw [decide_eq_false h6] at hg
        go_enter Tryd.func81, Tryd.ntmps81
        go_wp2_with (go_at_call 80; refine (hl _).mono ?_; rintro e w' ⟨rfl, rfl⟩)
        go_quiet (first | (go_at_call 87; exact Calls.quiet_of_same (hh _)))
        go_wp2_with (go_at_call 92; refine (hg _).mono ?_; rintro e w' ⟨rfl, hb⟩)
        go_ret
        exact ⟨rfl, Below.trans (by with_reducible repeat (first | apply below_alloc | apply pw_below_drewN | apply below_drew | refine bset ?_ _ _ (by omega) _ | exact Below.refl _ _)) (hb.mono (by simp))⟩
  · rw [if_neg h1]
    rw [decide_eq_false h1] at hl
    go_enter Tryd.func81, Tryd.ntmps81
    go_wp2_with (go_at_call 80; refine (hl _).mono ?_; rintro e w' ⟨rfl, rfl⟩)
    go_ret
    exact ⟨rfl, (by with_reducible repeat (first | apply below_alloc | apply pw_below_drewN | apply below_drew | refine bset ?_ _ _ (by omega) _ | exact Below.refl _ _))⟩

theorem checkR_ok {l a b h : Int} (hc : checkR l a b h = none) : 1 ≤ l ∧ l ≤ 3 ∧ goodP a b ∧ (h = 0 ∨ h = 1) ∧ (l = 1 → h = 0) := by
  unfold checkR at hc
  by_cases h0 : 1 ≤ l ∧ l ≤ 3
  · rw [if_pos h0] at hc
    by_cases h1 : h < 0 ∨ (if l = 1 then 1 else 2) ≤ h
    · rw [if_pos h1] at hc
      cases hc
    · rw [if_neg h1] at hc
      by_cases h2 : goodP a b
      · by_cases hl : l = 1
        · rw [if_pos hl] at h1
          exact ⟨h0.1, h0.2, h2, by omega, fun _ => by omega⟩
        · rw [if_neg hl] at h1
          exact ⟨h0.1, h0.2, h2, by omega, fun e => absurd e hl⟩
      · rw [if_neg h2] at hc
        cases hc
  · rw [if_neg h0] at hc
    cases hc

end Go.Proofs.YtaeenefdbahfoaaDoor
