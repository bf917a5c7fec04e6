/- IsoKeeps is true for every input, with what its row says of the package variables that it reads. Merged out of our texts: PIsoKeeps, RowIsoKeeps. -/
import Derived.Test.YtaeenefdbahfoaaDoorKIsoKeeps8
import Derived.Test.YtaeenefdbahfoaaDoorKIsoKeeps9
import Derived.Test.YtaeenefdbahfoaaDoorKIsoKeeps10
import Derived.Test.YtaeenefdbahfoaaDoorKIsoKeeps1
import Derived.Test.YtaeenefdbahfoaaDoorKIsoKeeps2
import Derived.Test.YtaeenefdbahfoaaDoorCards
namespace Go.Proofs.YtaeenefdbahfoaaDoor
set_option linter.unusedSimpArgs false
set_option linter.unusedVariables false
open Go.RowKit Go.Proofs.YtaeenefdbahfoaaDoorW.PrintWords Go.Proofs.YtaeenefdbahfoaaDoorW.PrintLast Go.Proofs.YtaeenefdbahfoaaDoorW.PrintMore
open H
open Go.RowKit
theorem keeps_refused (K : Nat) (L b0 b1 s0 s1 o : Int) (c : Int) (h : checkT L b0 b1 s0 s1 = some c) : iso_Keeps.f (K + 1) L b0 b1 s0 s1 o = some false := by
  unfold iso_Keeps.f
  rw [show XTCheck.f L b0 b1 s0 s1 = some (some c) by unfold XTCheck.f; rw [h], Option.bind_some, if_neg (by simp), iso_Keeps.j0, if_pos rfl]
theorem keeps_none (K : Nat) (L b0 b1 s0 s1 o : Int) (h : checkT L b0 b1 s0 s1 = none) (ho : ¬ (0 ≤ o ∧ o < 12)) : iso_Keeps.f (K + 1) L b0 b1 s0 s1 o = some false := by
  unfold iso_Keeps.f
  rw [show XTCheck.f L b0 b1 s0 s1 = some none by unfold XTCheck.f; rw [h]]
  simp only [Option.bind_some, Option.isNone_none, ↓reduceIte]
  have hg : axis_Operator_Good.f o = some false := by
    unfold axis_Operator_Good.f
    by_cases h0 : o ≥ 0
    · rw [if_pos h0, decide_eq_false (by omega)]
    · rw [if_neg h0]
  rw [hg, Option.bind_some, iso_Keeps.j0]
  rfl
theorem check_fine (K : Nat) (hK : 4000 ≤ K) (L : Int) (b0 b1 s0 s1 : Nat) (h : checkT L b0 b1 s0 s1 = none) : ∃ w o ok, iso_Check.f K L b0 b1 s0 s1 = some (w, o, ok, none) := by
  have hL : 1 ≤ L ∧ L ≤ 3 := by
    unfold checkT at h
    by_cases e : 1 ≤ L ∧ L ≤ 3
    · exact e
    · rw [if_neg e] at h; cases h
  by_cases h1 : L = 1
  · subst h1
    rcases checkw_hex b0 b1 s0 s1 K (by omega) h with ⟨p, q, live, _, _, _, he⟩ | ⟨he, _⟩
    · exact ⟨_, _, _, he⟩
    · exact ⟨_, _, _, he⟩
  · rcases checkw_tri L b0 b1 s0 s1 (by omega) K (by omega) h with ⟨q, live, _, _, he⟩ | ⟨he, _⟩
    · exact ⟨_, _, _, he⟩
    · exact ⟨_, _, _, he⟩
theorem check_code (L b0 b1 s0 s1 c : Int) (h : checkT L b0 b1 s0 s1 = some c) : c ≠ 0 := by
  unfold checkT at h
  split at h
  · split at h
    · cases h; decide
    · cases h
  · cases h; decide
theorem isoKeeps_pure (l o : Int) (B B1 S S1 : Nat) (hB : B < 18446744073709551616) (hB1 : B1 < 18446744073709551616) (hS : S < 18446744073709551616) (hS1 : S1 < 18446744073709551616) :
    ∃ K, honeycomblaw07_IsoKeeps.f K l B B1 S S1 o = some true := by
  obtain ⟨k, hk⟩ : ∃ k : Nat, 10000 ≤ k := ⟨10000, Nat.le_refl _⟩
  obtain ⟨K, hK⟩ : ∃ K, K = k + 1 := ⟨_, rfl⟩
  refine ⟨K, ?_⟩
  obtain ⟨L, b0, b1, s0, s1, hsome, ht⟩ := some_rule l B B1 S S1 hB hB1 hS hS1
  have hrc := rcheck_f K (by omega) l B B1 S S1 hB hB1 hS hS1
  unfold honeycomblaw07_IsoKeeps.f
  rw [show XAwake07.f = some true from rfl, Option.bind_some, if_pos rfl]
  simp only [honeycomblaw05_Own.f, hsome, XTold5.f, Option.bind_some, hrc]
  cases hc : checkT l B B1 S S1 with
  | none =>
    obtain ⟨w, p, ok, he⟩ := check_fine K (by omega) l B B1 S S1 hc
    rw [he]
    simp only [Option.bind_some, Option.getD_none, ↓reduceIte, Option.isNone_none]
    by_cases h0 : 0 ≤ o
    · by_cases h12 : o < 12
      · obtain ⟨p, rfl⟩ := Int.eq_ofNat_of_zero_le h0
        have hp : p < 12 := by omega
        have hb1 : L = 1 → (b1 : Int) = 0 ∧ (s1 : Int) = 0 := fun e => by have := ht.2.2.2.2.2.2.2.2 e; omega
        obtain ⟨v, hv, hi⟩ := rkeeps_f ht K p (by omega) hp
        obtain ⟨v', hv', hi'⟩ := keeps_any L b0 b1 s0 s1 K p (by have := ht.1; omega) hb1 (by omega) hp ht.2.1
        have e : v' = v := by rw [Bool.eq_iff_iff, hi, hi']
        rw [if_pos (by omega), if_pos h12, hv, Option.bind_some, hv', Option.bind_some, e]
        simp
      · rw [if_pos (by omega), if_neg h12, hK, keeps_none k L b0 b1 s0 s1 o ht.2.1 (by omega)]
        rfl
    · rw [if_neg (by omega), hK, keeps_none k L b0 b1 s0 s1 o ht.2.1 (by omega)]
      rfl
  | some c =>
    have h0 := check_code l B B1 S S1 c hc
    have he : iso_Check.f K l B B1 S S1 = some ([], 0, false, some c) := by
      unfold iso_Check.f
      rw [show XTCheck.f l B B1 S S1 = some (some c) by unfold XTCheck.f; rw [hc]]
      rfl
    rw [he]
    simp only [Option.bind_some, Option.getD_some, if_neg h0, XCodeOf.f, ↓reduceIte, Bool.false_eq_true]
    rw [hK, keeps_refused k l B B1 S S1 o c hc]
    rfl
theorem isoKeeps_walk (l b0 b1 s0 s1 : Int) (o : Int) (w : World) (hG : Six w) (hE : Et w) (hb0 : 0 ≤ b0) (hb0' : b0 < 18446744073709551616) (hb1 : 0 ≤ b1) (hb1' : b1 < 18446744073709551616) (hs0 : 0 ≤ s0) (hs0' : s0 < 18446744073709551616) (hs1 : 0 ≤ s1) (hs1' : s1 < 18446744073709551616) :
    Calls Tryd.prog 11 #[.agg #[.int .i64 l, .int .u64 b0, .int .u64 b1, .int .u64 s0, .int .u64 s1], .int .i64 o] w fun e w' => e = .returned (.bool true) ∧ Below w.heap.size w w' := by
  obtain ⟨B, rfl⟩ := Int.eq_ofNat_of_zero_le hb0
  obtain ⟨B1, rfl⟩ := Int.eq_ofNat_of_zero_le hb1
  obtain ⟨S, rfl⟩ := Int.eq_ofNat_of_zero_le hs0
  obtain ⟨S1, rfl⟩ := Int.eq_ofNat_of_zero_le hs1
  obtain ⟨K, hK⟩ := isoKeeps_pure l o B B1 S S1 (by omega) (by omega) (by omega) (by omega)
  exact honeycomblaw07_IsoKeeps.calls K l B B1 S S1 o true w hE hG hK rfl
end Go.Proofs.YtaeenefdbahfoaaDoor
namespace Go.Proofs.YtaeenefdbahfoaaDoor
set_option linter.unusedSimpArgs false
set_option linter.unusedVariables false
open Go.ChangeShapes Go.WideShapes Go.ChangeAt Go.RowKit
open Go.ChangeMaps (open_string shut_string)
set_option linter.unusedVariables false
set_option maxRecDepth 100000 in
theorem isoKeeps_lifted (os : Os) (started : os.Started) (H : Type) (enc : TypeId × Value → H) :
    ReturnsInHanded {} Tryd.checked os 11 .any (fun w args => (Rows.isoKeepsSpec.pre enc Tryd.prog Tryd.f11 [] false w args ∧ laidMetH Tryd.prog laid2 w) ∧ sizedMet enc Tryd.prog Tryd.f11 (OpenSpec.ofChange Rows.isoKeepsSpec) false w args)
      (Rows.isoKeepsSpec.post enc Tryd.prog Tryd.f11 false true false false) := by
  refine returnsInHanded_of_change_and (C := Tryd.checked) (X := fun w _ => laidMetH Tryd.prog laid2 w) (fun _ _ _ hh h => h.of_heap hh) ownP started (by kernel_rfl) Tryd.func11
    (ChangeSpec.witness_shaped (enc := enc) (C := Tryd.checked) (os := os) (X := fun w _ => laidMetH Tryd.prog laid2 w) false (World.doorLaid Tryd.prog 27 os) #[.agg #[.int .i64 0, .int .u64 0, .int .u64 0, .int .u64 0, .int .u64 0], .int .i64 0] 8 rfl (World.shaped_of_RefB (by kernel_rfl) (by kernel_rfl)) (by kernel_rfl) (by kernel_rfl) (by kernel_rfl) (door_met2 os _)) ?_
  intro W base args ds gs before hval0 hW _ _ hL _
  have hval : ∀ (j : Nat) t v, Tryd.f11.params[j]? = some t → args[j]? = some v → Value.okWide Tryd.prog W .any base t v := hval0
  have hW' := hW
  obtain ⟨p, q, hA0, hV, rfl, hfz, hnd⟩ := hW
  have hA : DataW.TrodAll enc Tryd.prog W 0 (fun _ => true) true Tryd.f11.params.toList args.toList ds p := hA0
  rw [Tryd.params11] at hA hval
  obtain ⟨v0, vs0, d0, ds0, p0, q0, hargs, rfl, rfl, h0, r0⟩ := trodAll_cons hA
  obtain ⟨v1, vs1, d1, ds1, p1, q1, rfl, rfl, rfl, h1, r1⟩ := trodAll_cons r0
  obtain ⟨rfl, rfl, rfl⟩ := trodAll_nil r1
  obtain rfl : args = #[v0, v1] := by cases args; simp_all
  obtain ⟨rfl, rfl⟩ := trodVars_none hV
  obtain ⟨l0, a0, b0, c0, e0, rfl, rfl, rfl, wl0, wa0, wb0, wc0, we0⟩ := open_raw (hval 0 _ v0 rfl rfl) h0
  obtain ⟨a1, rfl, rfl, rfl, w1⟩ := open_int Tryd.underlying3 (hval 1 _ v1 rfl rfl) h1
  clear hA0 hval0
  refine (isoKeeps_walk l0 a0 b0 c0 e0 a1 W (six_of_laid2 hL) (handle_of_laid hL) (u64_rng wa0).1 (u64_rng wa0).2 (u64_rng wb0).1 (u64_rng wb0).2 (u64_rng wc0).1 (u64_rng wc0).2 (u64_rng we0).1 (u64_rng we0).2).mono fun e W' ⟨he, bel⟩ => ?_
  subst he
  exact ⟨_, rfl, _, _, _, [], _, [], hW', trodAll_mk1 (shut_bool Tryd.underlying4 _), (trodAll_cons_mk (shut_raw wl0 wa0 wb0 wc0 we0) (trodAll_cons_mk (shut_int Tryd.underlying3 w1) trodAll_mk0)), rfl, bel.frame _, fun h => by cases h⟩
theorem isoKeeps_holds : Rows.IsoKeepsSaid :=
  OpenClaim.holds_of_wide 11 Tryd.f11 rfl rfl rfl rfl rfl rfl rfl ⟨rfl, rfl, rfl, rfl, rfl⟩ rfl rfl rfl rfl rfl (by kernel_rfl) Tryd.func11 (by kernel_rfl)
    (of_decide_eq_true (by kernel_rfl)) (by unfold Func.isWrapper; first | (rw [if_pos (by decide +kernel)]; kernel_rfl) | (rw [if_neg (by decide +kernel)]; exact ⟨rfl, rfl⟩))
    (fun os started H enc _ => isoKeeps_lifted os started H enc)
theorem isoKeeps_card : Rows.IsoKeepsCardSaid :=
  Claim7.holds_tied_plain_at .later [] [.data, .handle] true (true, "5343993735a6796f50623d127ce6b9207b28942770deceed6d4303fa040c3cfe") true
    isoKeeps_holds (fun _ h => by cases h) (by kernel_rfl) (fun _ h => by cases h) isoKeeps_row_tie rfl ⟨rfl, rfl⟩ (by kernel_rfl) rfl
    (fun f fn hf hfn => by
      obtain rfl : f = 11 := Option.some.inj ((show Tryd.prog.funcNamed "honeycomb/honeycomblaw07.IsoKeeps" = some 11 by kernel_rfl).symm.trans hf) |>.symm
      obtain rfl : fn = Tryd.f11 := (Option.some.inj (Tryd.func11.symm.trans hfn)).symm
      refine ⟨by kernel_rfl, fun j t ht => ?_⟩
      have hall : (Tryd.f11.params.toList.all fun t => !Tryd.prog.wantsStandIn t) = true := by kernel_rfl
      have hmem : t ∈ Tryd.f11.params.toList := by
        have := Array.mem_of_getElem? ht
        simpa using this
      have := List.all_eq_true.1 hall t hmem
      exact (by simpa using this : Tryd.prog.wantsStandIn t = false))
    (by kernel_rfl)
#print axioms isoKeeps_card
end Go.Proofs.YtaeenefdbahfoaaDoor
