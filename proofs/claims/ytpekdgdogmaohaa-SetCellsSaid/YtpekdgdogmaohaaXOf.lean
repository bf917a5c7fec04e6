/- slices.Clone at cells, and set.Of: all, rising, each once. -/
import Derived.Test.YtpekdgdogmaohaaComp
namespace Go.Proofs.Ytpekdgdogmaohaa
open Go.RowKit Go.Proofs.YtpekdgdogmaohaaW.PrintWords Go.Proofs.YtpekdgdogmaohaaW.PrintLast Go.Proofs.YtpekdgdogmaohaaW.PrintMore
open H
open Go.Shelf Go.RowKit Go.Lib Go.Sort

theorem R_lit (w : World) : Kd.R k37 37 (w.alloc (.cells #[] 37)) w.heap.size (fun _ => True) (.slice (some ⟨w.heap.size, 0, none⟩) 0 0) [] :=
  R_of_row (xs := []) ⟨by simp, by unfold maxLen; omega, #[], blk_new w _, rfl, fun j hj => by simp at hj⟩ (Nat.le_refl _) trivial

set_option maxRecDepth 100000 in
set_option maxHeartbeats 1000000 in
theorem clone_any (A0 : Option Addr) (c0 : Nat) (l0 : List S37) (w : World) (hr0 : Kd.C k37 w A0 l0.length l0) (hl : l0.length < 5864062014805) :
    Calls Try.prog 27 #[.slice A0 l0.length c0] w fun e w' => ∃ v, e = .returned v ∧ Kd.R k37 37 w' w.heap.size (fun _ => True) v l0 ∧ Below w.heap.size w w' := by
  have hq := fun W n c => Lib.run_eql_slice_nil (P := Try.prog) W 26 37 A0 n c 0 0 Try.underlying26
  have HR := Aside0.mk hr0
  clear hr0
  cases A0 with
  | none =>
    have h0 : l0 = [] := by
      have h1 := HR.out.2.2
      rcases Nat.eq_zero_or_pos l0.length with h | h
      · exact List.length_eq_zero_iff.1 h
      · obtain ⟨ad, h2, _⟩ := h1 h
        cases h2
    simp only [Option.isNone_none] at hq
    go_enter Try.func27, Try.ntmps27
    go_wp2
    go_ret
    exact ⟨_, rfl, by rw [h0]; exact Kd.R_nil _ _ _ _ _, (by with_reducible repeat (first | apply below_alloc | apply pw_below_drewN | apply below_drew | refine bset ?_ _ _ (by omega) _ | exact Below.refl _ _))⟩
  | some ad =>
    simp only [Option.isNone_some] at hq
    have hR := R_lit w
    have HL := Aside0.mk hR
    clear hR
    go_enter Try.func27, Try.ntmps27
    go_wp2_with (at_builtin; refine appN k37 w.heap.size (.tmp 5) (.tmp 6) 26 37 (.agg #[.int .i64 0, .int .i64 0, .int .i64 0]) 24 (w0 := w) _ [] l0 (some ad) c0 rfl rfl Try.underlying26 info37 rfl (by decide) (by decide) rfl rfl (fun x cs h => by obtain rfl := k37_open h; exact k37_mkM _ _ _ _) HL.out (Kd.C_below HR.out (below_alloc2 (Below.refl _ _) (Nat.le_refl _) _)) (below_alloc2 (Below.refl _ _) (Nat.le_refl _) _) (by simp) (by simp; omega) ?_; intro v1 w4 ho4 hb4; have HO4 := Aside0.mk ho4; have HB4 := Aside0.mk hb4; clear ho4 hb4)
    go_ret
    exact ⟨_, rfl, by simpa using HO4.out, HB4.out⟩

/-- the set of a list's cells -/
def ofL (l : List S37) : List S37 := compactUpTo (sortCells l).toArray (sortCells l).toArray.size
theorem ofL_le (l : List S37) : (ofL l).length ≤ l.length := by
  unfold ofL compactUpTo
  rw [List.length_map]
  exact Nat.le_trans (List.length_filter_le _ _) (by simp [sortCells, List.length_mergeSort])
theorem ofL_nil : ofL [] = [] := by simp [ofL, sortCells, compactUpTo]
def XOf.f (l : List S37) : Option (List S37) := if l.length < 5864062014805 then some (ofL l) else none

theorem compact_none (w : World) : Calls Try.prog 30 #[.slice none 0 0] w fun e w' => e = .returned (.slice none 0 0) ∧ w' = w := by
  go_enter Try.func30, Try.ntmps30
  go_wp2
  go_ret
  exact ⟨rfl, rfl⟩

set_option maxRecDepth 100000 in
set_option maxHeartbeats 1000000 in
theorem XOf.calls (A0 : Option Addr) (c0 : Nat) (l0 : List S37) (r : List S37) (w : World) (hr0 : Kd.C k37 w A0 l0.length l0) (_hc0 : l0.length ≤ c0) (h : XOf.f l0 = some r) :
    Calls Try.prog 8 #[.slice A0 l0.length c0] w fun e w' => ∃ v0_ : Value, e = .returned (v0_) ∧ Kd.R k37 37 w' w.heap.size (fun _ => True) v0_ r ∧ Below w.heap.size w w' := by
  have hl : l0.length < 5864062014805 := by
    by_cases h1 : l0.length < 5864062014805
    · exact h1
    · simp [XOf.f, h1] at h
  have hr : r = ofL l0 := by simpa [XOf.f, hl] using h.symm
  subst hr
  clear h
  have HR := Aside0.mk hr0
  clear hr0
  generalize hX : ofL l0 = X
  have HX := Aside0.mk hX
  clear hX
  go_enter Try.func8, Try.ntmps8
  go_wp2_with fail
  refine (clone_any A0 c0 l0 w HR.out hl).mono ?_
  rintro e w1 ⟨v, rfl, hO, hb1⟩
  rcases row_of_R hO with ⟨rfl, h0⟩ | ⟨g, cap, rfl, hg, _, hrow⟩
  · have HB1 := Aside0.mk hb1
    clear hb1 hO
    go_wp2_with (first
      | (go_at_call 28; refine (sort_none _ _).mono ?_; rintro e w2 ⟨rfl, rfl⟩)
      | (go_at_call 30; refine (compact_none _).mono ?_; rintro e w3 ⟨rfl, rfl⟩))
    go_ret
    exact ⟨_, rfl, by rw [← HX.out, h0, ofL_nil]; exact Kd.R_nil _ _ _ _ _, HB1.out⟩
  · have HB1 := Aside0.mk hb1
    have R1 := Aside0.mk hrow
    clear hb1 hO hrow
    have hsl : (sortCells l0).length = l0.length := List.length_mergeSort _
    have hsort := fun W hW => sort_any W g cap l0 hW (by omega)
    have hcomp : ∀ W, Row3 W g cap (sortCells l0).toArray → Calls Try.prog 30 #[.slice (some ⟨g, 0, none⟩) l0.length cap] W fun e w' => e = .returned (.slice (some ⟨g, 0, none⟩) (ofL l0).length cap) ∧ Row3 w' g cap (ofL l0).toArray ∧ W.grownBy w' (some g) := fun W hW => by
      have := compact_any W g cap _ hW (by simp [hsl]; omega)
      change Calls _ _ _ _ fun e w' => e = .returned (.slice (some ⟨g, 0, none⟩) (ofL l0).length cap) ∧ Row3 w' g cap (ofL l0).toArray ∧ W.grownBy w' (some g) at this
      rwa [show (sortCells l0).toArray.size = l0.length by simp [hsl]] at this
    rw [HX.out] at hcomp
    go_wp2_with (first
      | (go_at_call 28; refine (hsort _ R1.out).mono ?_; rintro e w5 ⟨rfl, hr5, hgr5⟩; have R6 := Aside0.mk hr5; have GR5 := Aside0.mk hgr5; clear hr5 hgr5)
      | (go_at_call 30; refine (hcomp _ R6.out).mono ?_; rintro e w6 ⟨rfl, hr6, hgr6⟩; have R7 := Aside0.mk hr6; have GR6 := Aside0.mk hgr6; clear hr6 hgr6))
    have hz := HB1.out.size
    have hB36 : Below w.heap.size w w6 := pw_below_grown (pw_below_grown HB1.out _ (by omega) GR5.out (fun k hk => by cases hk; exact hg)) _ (Nat.le_trans (by omega) GR5.out.size) GR6.out (fun k hk => by cases hk; exact hg)
    have HB36 := Aside0.mk hB36
    clear hB36
    go_ret
    exact ⟨_, rfl, R_of_row R7.out hg trivial, HB36.out⟩
end Go.Proofs.Ytpekdgdogmaohaa
