/- FlatFar is true for every input, with what its row says of the package variables that it reads. Merged out of our texts: PFlatFar, RowFlatFar. -/
import Derived.Test.YtaeenefdbahfoaaDoorKFlatFar0
import Derived.ChangeOld
import Derived.SizedLaws
import Derived.Test.YtaeenefdbahfoaaDoorCards
import Derived.Test.YtaeenefdbahfoaaDoorKFlatShift0
import Derived.Test.YtaeenefdbahfoaaDoorKFlatShift1
import Derived.Test.YtaeenefdbahfoaaDoorKFlatShift2
import Derived.Test.YtaeenefdbahfoaaDoorKFlatShift3
import Derived.Test.YtaeenefdbahfoaaDoorKFlatShift4
import Derived.Test.YtaeenefdbahfoaaDoorKFlatShift5
import Derived.Test.YtaeenefdbahfoaaDoorKFlatShift6
import Derived.Test.YtaeenefdbahfoaaDoorKFlatShift7
import Derived.Test.YtaeenefdbahfoaaDoorKFlatShift8
import Derived.Test.YtaeenefdbahfoaaDoorKFlatShift9
import Derived.Test.YtaeenefdbahfoaaDoorKFlatShift10
namespace Go.Proofs.YtaeenefdbahfoaaDoor
open Go.RowKit Go.Proofs.YtaeenefdbahfoaaDoorW.PrintWords Go.Proofs.YtaeenefdbahfoaaDoorW.PrintLast Go.Proofs.YtaeenefdbahfoaaDoorW.PrintMore
open H
open Go.RowKit
theorem far_step {nx : Rul} {l : Int} (hl : 1 ≤ l ∧ l ≤ 3) (h0 : ∀ x, nx x false 0 = false) (R : Int) (hR : R ≤ 20) (s t : List CL) (hs : Srt s) (ht : Srt t) (bs : Bx l R s) (bt : Bx l R t) :
    nextL nx l (ofL (s ++ t.map (sh 100 (-50)))) = ofL (nextL nx l s ++ (nextL nx l t).map (sh 100 (-50))) := by
  have hu : Srt (t.map (sh 100 (-50))) := srt_sh _ _ ht
  have hhu : ∀ c ∈ t.map (sh 100 (-50)), hOK l c.f1 := fun c hc => by obtain ⟨d, hd, rfl⟩ := List.mem_map.1 hc; exact (bt d hd).1
  have hub : ∀ c ∈ t.map (sh 100 (-50)), (100 - R ≤ c.f0.f0 ∧ c.f0.f0 ≤ 100 + R) ∧ (-50 - R ≤ c.f0.f1 ∧ c.f0.f1 ≤ -50 + R) := fun c hc => by
    obtain ⟨d, hd, rfl⟩ := List.mem_map.1 hc
    obtain ⟨_, h2, h3⟩ := bt d hd
    simp only [sh]
    omega
  have hb : Srt (ofL (s ++ t.map (sh 100 (-50)))) := ofL_srt _
  have hbm : ∀ c, c ∈ ofL (s ++ t.map (sh 100 (-50))) ↔ c ∈ s ∨ c ∈ t.map (sh 100 (-50)) := fun c => by rw [ofL_mem, List.mem_append]
  have hhb : ∀ c ∈ ofL (s ++ t.map (sh 100 (-50))), hOK l c.f1 := fun c hc => by
    rcases (hbm c).1 hc with h | h
    · exact (bs c h).1
    · exact hhu c h
  rw [← next_sh nx l hl h0 t (srt_nodup ht) bt.half 100 (-50)]
  refine srt_ext (next_srt _ _ _) (ofL_srt _) (fun x => ?_)
  rw [ofL_mem, List.mem_append]
  obtain ⟨u, hue⟩ : ∃ u, u = t.map (sh 100 (-50)) := ⟨_, rfl⟩
  rw [← hue] at hu hhu hub hb hbm hhb ⊢
  obtain ⟨b, hbe⟩ : ∃ b, b = ofL (s ++ u) := ⟨_, rfl⟩
  rw [← hbe] at hb hbm hhb ⊢
  have ns := fun h => next_near nx l hl h0 s (srt_nodup hs) bs.half x h
  have nu := fun h => next_near nx l hl h0 u (srt_nodup hu) hhu x h
  have nb := fun h => next_near nx l hl h0 b (srt_nodup hb) hhb x h
  by_cases h1 : (-R - 1 ≤ x.f0.f0 ∧ x.f0.f0 ≤ R + 1) ∧ (-R - 1 ≤ x.f0.f1 ∧ x.f0.f1 ≤ R + 1)
  · have e := next_local nx l hl h0 b s (srt_nodup hb) hhb (srt_nodup hs) bs.half x (fun d d1 d2 d3 d4 => by
      rw [hbm]
      exact ⟨fun h => h.elim id (fun h => absurd (hub d h) (by omega)), .inl⟩)
    rw [e]
    exact ⟨.inl, fun h => h.elim id (fun h => by obtain ⟨c, hc, h2⟩ := nu h; exact absurd (hub c hc) (by omega))⟩
  · by_cases h2 : (99 - R ≤ x.f0.f0 ∧ x.f0.f0 ≤ 101 + R) ∧ (-51 - R ≤ x.f0.f1 ∧ x.f0.f1 ≤ -49 + R)
    · have e := next_local nx l hl h0 b u (srt_nodup hb) hhb (srt_nodup hu) hhu x (fun d d1 d2 d3 d4 => by
        rw [hbm]
        exact ⟨fun h => h.elim (fun h => absurd (bs d h).2 (by omega)) id, .inr⟩)
      rw [e]
      exact ⟨.inr, fun h => h.elim (fun h => by obtain ⟨c, hc, h3⟩ := ns h; exact absurd (bs c hc).2 (by omega)) id⟩
    · constructor
      · intro h
        obtain ⟨c, hc, h3⟩ := nb h
        rcases (hbm c).1 hc with h | h
        · exact absurd (bs c h).2 (by omega)
        · exact absurd (hub c h) (by omega)
      · rintro (h | h)
        · obtain ⟨c, hc, h3⟩ := ns h
          exact absurd (bs c hc).2 (by omega)
        · obtain ⟨c, hc, h3⟩ := nu h
          exact absurd (hub c hc) (by omega)
theorem far_steps {nx : Rul} {l : Int} (hl : 1 ≤ l ∧ l ≤ 3) (h0 : ∀ x, nx x false 0 = false) : ∀ (n : Nat) (R : Int) (_ : R + n ≤ 20) (s t : List CL) (_ : Srt s) (_ : Srt t) (_ : Bx l R s) (_ : Bx l R t),
    stepsL nx l n (ofL (s ++ t.map (sh 100 (-50)))) = ofL (stepsL nx l n s ++ stepsL nx l n (t.map (sh 100 (-50))))
  | 0, _, _, _, _, _, _, _, _ => rfl
  | n + 1, R, hR, s, t, hs, ht, bs, bt => by
    rw [stepsL, far_step hl h0 R (by omega) s t hs ht bs bt, stepsL, stepsL, next_sh nx l hl h0 t (srt_nodup ht) bt.half 100 (-50)]
    exact far_steps hl h0 n (R + 1) (by omega) _ _ (next_srt _ _ _) (next_srt _ _ _) (bs.next hl h0 hs) (bt.next hl h0 ht)
theorem flatFar_pure (l a3 : Int) (B B1 S S1 : Nat) (ra rb : List RC) (hB : B < 18446744073709551616) (hB1 : B1 < 18446744073709551616) (hS : S < 18446744073709551616) (hS1 : S1 < 18446744073709551616) :
    ∃ K, honeycomblaw08_FlatFar.f K l B B1 S S1 ra rb a3 = some true := by
  obtain ⟨K, hK⟩ : ∃ K : Nat, 100000000 ≤ K := ⟨100000000, Nat.le_refl _⟩
  refine ⟨K, ?_⟩
  obtain ⟨n, hn, hN⟩ := gens a3
  obtain ⟨L, b0, b1, s0, s1, hsome, hT⟩ := some_rule l B B1 S S1 hB hB1 hS hS1
  obtain ⟨s, hfs, hs, hsl, bs⟩ := few_f K L ra (by omega)
  obtain ⟨t, hft, ht, htl, bt⟩ := few_f K L rb (by omega)
  have h13 := pow13 n hn
  have h0 := rule_zero hT
  have e1 := shift_f ht bt 100 (-50) 100 (by omega) (by omega) (by omega) (by omega) (by omega)
  have hfar := far_steps hT.1 h0 n 6 (by omega) s t hs ht bs bt
  have bu := bt.shift 100 (-50) 100 (by omega) (by omega)
  have hu := srt_sh 100 (-50) ht
  have hul : (t.map (sh 100 (-50))).length ≤ 16 := by rw [List.length_map]; exact htl
  obtain ⟨u, hue⟩ : ∃ u, u = t.map (sh 100 (-50)) := ⟨_, rfl⟩
  rw [← hue] at e1 hfar bu hu hul
  have hbl : (ofL (s ++ u)).length ≤ 32 := Nat.le_trans (ofL_le _) (by rw [List.length_append]; omega)
  have bb : Bx L (6 + 100) (ofL (s ++ u)) := fun c hc => by
    rw [ofL_mem, List.mem_append] at hc
    rcases hc with hc | hc
    · exact bs.mono (by omega) c hc
    · exact bu c hc
  have hl1 : s.length * 13 ^ n ≤ 16 * 28561 := Nat.mul_le_mul hsl h13
  have hl2 : u.length * 13 ^ n ≤ 16 * 28561 := Nat.mul_le_mul hul h13
  have hl3 : (ofL (s ++ u)).length * 13 ^ n ≤ 32 * 28561 := Nat.mul_le_mul hbl h13
  have e2 := steps_f hT n (by omega) K (ofL (s ++ u)) (6 + 100) (by omega) (by omega) (ofL_srt _) (by omega) bb (by omega)
  have e3 := steps_f hT n (by omega) K s 6 (by omega) (by omega) hs (by omega) bs (by omega)
  have e4 := steps_f hT n (by omega) K u (6 + 100) (by omega) (by omega) hu (by omega) bu (by omega)
  have g1 := stepsL_len (nxtV b0 b1 s0 s1) L n s
  have g2 := stepsL_len (nxtV b0 b1 s0 s1) L n u
  have g3 := stepsL_len (nxtV b0 b1 s0 s1) L n (ofL (s ++ u))
  have o1 : XOf.f (s ++ u) = some (ofL (s ++ u)) := by unfold XOf.f; rw [if_pos (by rw [List.length_append]; omega)]
  have o2 : XOf.f (stepsL (nxtV b0 b1 s0 s1) L n s ++ stepsL (nxtV b0 b1 s0 s1) L n u) = some (ofL (stepsL (nxtV b0 b1 s0 s1) L n s ++ stepsL (nxtV b0 b1 s0 s1) L n u)) := by unfold XOf.f; rw [if_pos (by rw [List.length_append]; omega)]
  unfold honeycomblaw08_FlatFar.f
  rw [awake8_f K (by omega), hsome]
  simp only [Option.bind_some, ↓reduceIte, hN, hfs, hft, e1, List.nil_append, List.length_nil, Nat.zero_add]
  rw [if_pos (by omega), if_pos (by omega), o1]
  simp only [Option.bind_some, e2, e3, e4, Option.isNone_none, ↓reduceIte]
  rw [if_pos (by omega), if_pos (by omega), o2]
  simp only [Option.bind_some]
  rw [same_f K _ _ (by omega) (by omega), hfar]
  simp
theorem flatFar_walk (l b0 b1 s0 s1 : Int) (A1 : Option Addr) (c1 : Nat) (l1 : List RC) (A2 : Option Addr) (c2 : Nat) (l2 : List RC) (a3 : Int) (w : World) (hG : Six w) (hb0 : 0 ≤ b0) (hb0' : b0 < 18446744073709551616) (hb1 : 0 ≤ b1) (hb1' : b1 < 18446744073709551616) (hs0 : 0 ≤ s0) (hs0' : s0 < 18446744073709551616) (hs1 : 0 ≤ s1) (hs1' : s1 < 18446744073709551616)
    (hr : Kd.C k60 w A1 l1.length l1) (hc : l1.length ≤ c1) (hr2 : Kd.C k60 w A2 l2.length l2) (hc2 : l2.length ≤ c2) :
    Calls Tryd.prog 6 #[.agg #[.int .i64 l, .int .u64 b0, .int .u64 b1, .int .u64 s0, .int .u64 s1], .slice A1 l1.length c1, .slice A2 l2.length c2, .int .i64 a3] w fun e w' => e = .returned (.bool true) ∧ Below w.heap.size w w' := by
  obtain ⟨B, rfl⟩ := Int.eq_ofNat_of_zero_le hb0
  obtain ⟨B1, rfl⟩ := Int.eq_ofNat_of_zero_le hb1
  obtain ⟨S, rfl⟩ := Int.eq_ofNat_of_zero_le hs0
  obtain ⟨S1, rfl⟩ := Int.eq_ofNat_of_zero_le hs1
  obtain ⟨K, hK⟩ := flatFar_pure l a3 B B1 S S1 l1 l2 (by omega) (by omega) (by omega) (by omega)
  exact honeycomblaw08_FlatFar.calls K l B B1 S S1 A1 c1 l1 A2 c2 l2 a3 true w hG hr hc hr2 hc2 hK rfl
end Go.Proofs.YtaeenefdbahfoaaDoor
namespace Go.Proofs.YtaeenefdbahfoaaDoor
open Go.ChangeShapes Go.WideShapes Go.ChangeAt Go.RowKit
open Go.ChangeMaps (open_string shut_string)
open Go.Proofs.YtaeenefdbahfoaaDoorW.PrintWords
set_option linter.unusedVariables false
theorem flatFar_laidOut : laidOutB Tryd.prog = true := by kernel_rfl
set_option maxRecDepth 100000 in
theorem flatFar_lifted (os : Os) (started : os.Started) (H : Type) (enc : TypeId × Value → H) :
    ReturnsInHanded {} Tryd.checked os 6 .any (fun w args => (Rows.flatFarSpec.pre enc Tryd.prog Tryd.f6 [] false w args ∧ laidMetH Tryd.prog laid1 w) ∧ sizedMet enc Tryd.prog Tryd.f6 (OpenSpec.ofChange Rows.flatFarSpec) false w args)
      (Rows.flatFarSpec.post enc Tryd.prog Tryd.f6 false true false false) := by
  refine returnsInHanded_of_change_and (C := Tryd.checked) (X := fun w _ => laidMetH Tryd.prog laid1 w) (fun _ _ _ hh h => h.of_heap hh) ownP started (by kernel_rfl) Tryd.func6
    (ChangeSpec.witness_shaped (enc := enc) (C := Tryd.checked) (os := os) (X := fun w _ => laidMetH Tryd.prog laid1 w) false (World.doorLaid Tryd.prog 27 os) #[.agg #[.int .i64 0, .int .u64 0, .int .u64 0, .int .u64 0, .int .u64 0], .slice none 0 0, .slice none 0 0, .int .i64 0] 8 rfl (World.shaped_of_RefB (by kernel_rfl) (by kernel_rfl)) (by kernel_rfl) (by kernel_rfl) (by kernel_rfl) (door_met os _)) ?_
  intro W base args ds gs before hval0 hW _ _ hL _
  have hval : ∀ (j : Nat) t v, Tryd.f6.params[j]? = some t → args[j]? = some v → Value.okWide Tryd.prog W .any base t v := hval0
  have hW' := hW
  obtain ⟨p, q, hA0, hV, rfl, hfz, hnd⟩ := hW
  have hA : DataW.TrodAll enc Tryd.prog W 0 (fun _ => true) true Tryd.f6.params.toList args.toList ds p := hA0
  rw [Tryd.params6] at hA hval
  obtain ⟨v0, vs0, d0, ds0, p0, q0, hargs, rfl, rfl, h0, r0⟩ := trodAll_cons hA
  obtain ⟨v1, vs1, d1, ds1, p1, q1, rfl, rfl, rfl, h1, r1⟩ := trodAll_cons r0
  obtain ⟨v2, vs2, d2, ds2, p2, q2, rfl, rfl, rfl, h2, r2⟩ := trodAll_cons r1
  obtain ⟨v3, vs3, d3, ds3, p3, q3, rfl, rfl, rfl, h3, r3⟩ := trodAll_cons r2
  obtain ⟨rfl, rfl, rfl⟩ := trodAll_nil r3
  obtain rfl : args = #[v0, v1, v2, v3] := by cases args; simp_all
  obtain ⟨rfl, rfl⟩ := trodVars_none hV
  obtain ⟨l0, a0, b0, c0, e0, rfl, rfl, rfl, wl0, wa0, wb0, wc0, we0⟩ := open_raw (hval 0 _ v0 rfl rfl) h0
  obtain ⟨a1, len1, cap1, rfl⟩ := okWide_slice Tryd.underlying45 (hval 1 _ v1 rfl rfl)
  have k1 := h1
  have lt1 : ∀ x ∈ p1, x.block < W.heap.size := by obtain ⟨m, hm⟩ := k1; exact DataW.trod_lt m _ _ _ hm
  obtain ⟨l1, rfl, hc1, hr1⟩ := open_rows0 Tryd.underlying45 (by kernel_rfl) (fun fu cs y hy => el_rc fu cs y hy) h1
  obtain ⟨a2, len2, cap2, rfl⟩ := okWide_slice Tryd.underlying45 (hval 2 _ v2 rfl rfl)
  have k2 := h2
  have lt2 : ∀ x ∈ p2, x.block < W.heap.size := by obtain ⟨m, hm⟩ := k2; exact DataW.trod_lt m _ _ _ hm
  obtain ⟨l2, rfl, hc2, hr2⟩ := open_rows0 Tryd.underlying45 (by kernel_rfl) (fun fu cs y hy => el_rc fu cs y hy) h2
  obtain ⟨a3, rfl, rfl, rfl, w3⟩ := open_int Tryd.underlying3 (hval 3 _ v3 rfl rfl) h3
  clear hA0 hval0
  refine (flatFar_walk l0 a0 b0 c0 e0 a1 cap1 l1 a2 cap2 l2 a3 W (six_of_laid hL) (u64_rng wa0).1 (u64_rng wa0).2 (u64_rng wb0).1 (u64_rng wb0).2 (u64_rng wc0).1 (u64_rng wc0).2 (u64_rng we0).1 (u64_rng we0).2 hr1 hc1 hr2 hc2).mono fun e W' ⟨he, bel⟩ => ?_
  subst he
  exact ⟨_, rfl, _, _, _, [], _, [], hW', trodAll_mk1 (shut_bool Tryd.underlying4 _), (trodAll_cons_mk (shut_raw wl0 wa0 wb0 wc0 we0) (trodAll_cons_mk (Below.trod flatFar_laidOut (by kernel_rfl) (of_decide_eq_true (by kernel_rfl)) k1 bel lt1) (trodAll_cons_mk (Below.trod flatFar_laidOut (by kernel_rfl) (of_decide_eq_true (by kernel_rfl)) k2 bel lt2) (trodAll_cons_mk (shut_int Tryd.underlying3 w3) trodAll_mk0)))), rfl, bel.frame _, fun h => by cases h⟩
theorem flatFar_holds : Rows.FlatFarSaid :=
  OpenClaim.holds_of_wide 6 Tryd.f6 rfl rfl rfl rfl rfl rfl rfl ⟨rfl, rfl, rfl, rfl, rfl⟩ rfl rfl rfl rfl rfl (by kernel_rfl) Tryd.func6 (by kernel_rfl)
    (of_decide_eq_true (by kernel_rfl)) (by unfold Func.isWrapper; first | (rw [if_pos (by decide +kernel)]; kernel_rfl) | (rw [if_neg (by decide +kernel)]; exact ⟨rfl, rfl⟩))
    (fun os started H enc _ => flatFar_lifted os started H enc)
theorem flatFar_card : Rows.FlatFarCardSaid :=
  Claim7.holds_tied_plain_at .later [] [.data] true (true, "5343993735a6796f50623d127ce6b9207b28942770deceed6d4303fa040c3cfe") true
    flatFar_holds (fun _ h => by cases h) (by kernel_rfl) (fun _ h => by cases h) flatFar_row_tie rfl ⟨rfl, rfl⟩ (by kernel_rfl) rfl
    (fun f fn hf hfn => by
      obtain rfl : f = 6 := Option.some.inj ((show Tryd.prog.funcNamed "honeycomb/honeycomblaw08.FlatFar" = some 6 by kernel_rfl).symm.trans hf) |>.symm
      obtain rfl : fn = Tryd.f6 := (Option.some.inj (Tryd.func6.symm.trans hfn)).symm
      refine ⟨by kernel_rfl, fun j t ht => ?_⟩
      have hall : (Tryd.f6.params.toList.all fun t => !Tryd.prog.wantsStandIn t) = true := by kernel_rfl
      have hmem : t ∈ Tryd.f6.params.toList := by
        have := Array.mem_of_getElem? ht
        simpa using this
      have := List.all_eq_true.1 hall t hmem
      exact (by simpa using this : Tryd.prog.wantsStandIn t = false))
    (by kernel_rfl)
#print axioms flatFar_card
end Go.Proofs.YtaeenefdbahfoaaDoor
