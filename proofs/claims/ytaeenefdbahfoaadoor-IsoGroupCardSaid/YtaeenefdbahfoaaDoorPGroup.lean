/- IsoGroup: the plain law: those operators that are kept are a group; a table that is whole is kept by all. -/
import Derived.Test.YtaeenefdbahfoaaDoorPRing2
import Derived.Test.YtaeenefdbahfoaaDoorHhoneycomblaw07IsoGroup
namespace Go.Proofs.YtaeenefdbahfoaaDoor
open Go.RowKit Go.Proofs.YtaeenefdbahfoaaDoorW.PrintWords Go.Proofs.YtaeenefdbahfoaaDoorW.PrintLast Go.Proofs.YtaeenefdbahfoaaDoorW.PrintMore
open H
open Go.RowKit

theorem leO_addG {α : Type} {g : Nat → Option α} (h : ∀ k, LeO (g k) (g (k + 1))) {n : Nat} {r : α} (hn : g n = some r) : ∀ m, g (n + m) = some r
  | 0 => hn
  | m + 1 => h (n + m) r (leO_addG h hn m)
theorem leO_ge {α : Type} {g : Nat → Option α} (h : ∀ k, LeO (g k) (g (k + 1))) {n : Nat} {r : α} (hn : g n = some r) (K : Nat) (hK : n ≤ K) : g K = some r := by
  obtain ⟨m, rfl⟩ : ∃ m, K = n + m := ⟨K - n, by omega⟩
  exact leO_addG h hn m
theorem thenG_tab : ∀ o p : Fin 12, axis_Operator_Then.f (o.1 : Int) (p.1 : Int) = some (thenT o.1 p.1 : Int) := by decide +kernel
theorem backG_tab : ∀ o : Fin 12, axis_Operator_Back.f (o.1 : Int) = some (backT o.1 : Int) := by decide +kernel
theorem half_tab : ∀ p : Fin 12, (onC 2 (p.1 : Int) (mk 0 0 0)).f1 = (p.1 % 2 : Nat) ∧ (onC 3 (p.1 : Int) (mk 0 0 0)).f1 = (p.1 % 2 : Nat) ∧ goodP (onC 2 (p.1 : Int) (mk 0 0 0)).f0.f0 (onC 2 (p.1 : Int) (mk 0 0 0)).f0.f1 ∧ goodP (onC 3 (p.1 : Int) (mk 0 0 0)).f0.f0 (onC 3 (p.1 : Int) (mk 0 0 0)).f0.f1 := by
  unfold goodP
  decide +kernel
theorem par_tab : ∀ o p : Fin 12, thenT o.1 p.1 % 2 = (o.1 + p.1) % 2 ∧ backT o.1 % 2 = o.1 % 2 := by decide +kernel
/-- does an operator change nothing of what a table does -/
def KP (L B0 B1 S0 S1 : Int) (p : Nat) : Prop := if L = 1 then ∀ q : Nat, q < 64 → badAt B0 S0 p q = false else (p % 2 = 0 ∨ (B0 = B1 ∧ S0 = S1))
theorem bad_iff (b s : Int) (p q : Nat) : badAt b s p q = false ↔ nxB b (q : Int) = nxB b (brT p q : Int) ∧ nxB s (q : Int) = nxB s (brT p q : Int) := by
  unfold badAt
  rw [Bool.or_eq_false_iff]
  simp
theorem KP_then (L B0 B1 S0 S1 : Int) (o p : Nat) (ho : o < 12) (hp : p < 12) (h1 : KP L B0 B1 S0 S1 o) (h2 : KP L B0 B1 S0 S1 p) : KP L B0 B1 S0 S1 (thenT o p) := by
  unfold KP at *
  by_cases hL : L = 1
  · simp only [if_pos hL] at *
    intro q hq
    have a := (bad_iff _ _ _ _).1 (h1 q hq)
    have b := (bad_iff _ _ _ _).1 (h2 _ (brT_lt o q ho hq))
    rw [bad_iff, ← brT_comp o p q ho hp hq]
    exact ⟨a.1.trans b.1, a.2.trans b.2⟩
  · simp only [if_neg hL] at *
    rcases h1 with h1 | h1
    · rcases h2 with h2 | h2
      · exact .inl (by have := (par_tab ⟨o, ho⟩ ⟨p, hp⟩).1; simp only at this; omega)
      · exact .inr h2
    · exact .inr h1
theorem KP_back (L B0 B1 S0 S1 : Int) (o : Nat) (ho : o < 12) (h1 : KP L B0 B1 S0 S1 o) : KP L B0 B1 S0 S1 (backT o) := by
  unfold KP at *
  by_cases hL : L = 1
  · simp only [if_pos hL] at *
    intro q hq
    obtain ⟨r, hr, rfl⟩ := brT_on o q ho hq
    have a := (bad_iff _ _ _ _).1 (h1 r hr)
    have e : brT (backT o) (brT o r) = r := by
      rw [brT_comp o (backT o) r ho (backT_lt o ho) hr, (then_back ⟨o, ho⟩).1]
      exact br_id ⟨r, hr⟩
    rw [bad_iff, e]
    exact ⟨a.1.symm, a.2.symm⟩
  · simp only [if_neg hL] at *
    rcases h1 with h1 | h1
    · exact .inl (by have := (par_tab ⟨o, ho⟩ ⟨o, ho⟩).2; simp only at this; omega)
    · exact .inr h1
theorem KP_zero (L B0 B1 S0 S1 : Int) : KP L B0 B1 S0 S1 0 := by
  unfold KP
  by_cases hL : L = 1
  · rw [if_pos hL]
    intro q hq
    rw [bad_iff]
    have := br_id ⟨q, hq⟩
    simp only at this
    rw [this]
    exact ⟨rfl, rfl⟩
  · rw [if_neg hL]
    exact .inl rfl
theorem keeps_any (L B0 B1 S0 S1 : Int) (K p : Nat) (hL : L = 1 ∨ L = 2 ∨ L = 3) (h1 : L = 1 → B1 = 0 ∧ S1 = 0) (hK : 66 ≤ K) (hp : p < 12) (hc : checkT L B0 B1 S0 S1 = none) :
    ∃ v, iso_Keeps.f K L B0 B1 S0 S1 (p : Int) = some v ∧ (v = true ↔ KP L B0 B1 S0 S1 p) := by
  obtain ⟨k, rfl⟩ : ∃ k, K = k + 66 := ⟨K - 66, by omega⟩
  unfold KP
  by_cases h : L = 1
  · subst h
    rw [if_pos rfl]
    exact keeps_hex B0 B1 S0 S1 k p hp hc
  · rw [if_neg h]
    obtain ⟨t2, t3, g2, g3⟩ := half_tab ⟨p, hp⟩
    simp only at t2 t3 g2 g3
    have hck : checkR L 0 0 0 = none := by
      unfold checkR
      rw [if_pos (by omega), if_neg (by rw [if_neg h]; omega), if_pos (by unfold goodP; omega)]
    have hon : ∃ x y, XOn.f L (p : Int) 0 0 0 = some (x, y, ((p % 2 : Nat) : Int), none) := by
      unfold XOn.f onR
      rw [show (mk 0 0 0 : CL).f0.f0 = 0 from rfl, show (mk 0 0 0 : CL).f0.f1 = 0 from rfl, show (mk 0 0 0 : CL).f1 = 0 from rfl, hck]
      simp only
      rw [if_pos (by omega)]
      rcases hL with hL | hL | hL
      · exact absurd hL h
      · subst hL
        rw [if_pos g2, t2]
        exact ⟨_, _, rfl⟩
      · subst hL
        rw [if_pos g3, t3]
        exact ⟨_, _, rfl⟩
    obtain ⟨x, y, hon⟩ := hon
    unfold iso_Keeps.f
    rw [show XTCheck.f L B0 B1 S0 S1 = some none by unfold XTCheck.f; rw [hc]]
    simp only [Option.bind_some, Option.isNone_none, ↓reduceIte, good_f p hp, Bool.not_true]
    rw [show k + 66 = (k + 65) + 1 from rfl, iso_Keeps.j0, if_neg (by decide), if_neg h, hon]
    simp only [Option.bind_some]
    by_cases hh : ((p % 2 : Nat) : Int) = 0
    · rw [if_pos hh]
      exact ⟨true, rfl, by simp; left; omega⟩
    · rw [if_neg hh]
      by_cases hB : B0 = B1
      · rw [if_pos hB]
        exact ⟨_, rfl, by simp; constructor; (intro e; exact .inr ⟨hB, e⟩); (rintro (e | e); (omega); exact e.2)⟩
      · rw [if_neg hB]
        exact ⟨false, rfl, by simp; exact ⟨by omega, fun e => absurd e hB⟩⟩
theorem badH_none (B S m1 m2 o : Nat) (hB : B < 18446744073709551616) (hS : S < 18446744073709551616) (ho : o < 18446744073709551616) (h1 : m1 &&& (o ||| 1) = 0) (h2 : m2 &&& o = 0) : badH ((B &&& m1 : Nat) : Int) ((S &&& m2 : Nat) : Int) (o : Int) = false := by
  unfold badH
  have e := or_nat o 1 ho (by decide)
  rw [show ((1 : Nat) : Int) = 1 from rfl] at e
  rw [e, and_nat _ _ (Nat.lt_of_le_of_lt Nat.and_le_left hB) (Nat.or_lt_two_pow (n := 64) ho (by decide)), and_nat _ _ (Nat.lt_of_le_of_lt Nat.and_le_left hS) ho, Nat.and_assoc, Nat.and_assoc, h1, h2]
  simp
theorem badH_zero (o : Int) (ho : o = 18446744073709551615) : badH 0 0 o = false := by subst ho; decide +kernel
theorem some_check (l : Int) (B B1 S S1 : Nat) (hB : B < 18446744073709551616) (hB1 : B1 < 18446744073709551616) (hS : S < 18446744073709551616) (hS1 : S1 < 18446744073709551616) :
    ∃ L b0 b1 s0 s1, XSome5.f l B B1 S S1 = some (L, b0, b1, s0, s1) ∧ (L = 1 ∨ L = 2 ∨ L = 3) ∧ (L = 1 → b1 = 0 ∧ s1 = 0) ∧ checkT L b0 b1 s0 s1 = none ∧ (L ≠ 1 → checkT L b0 b0 s0 s0 = none) := by
  have hL : latT l = 1 ∨ latT l = 2 ∨ latT l = 3 := by unfold latT; omega
  unfold XSome5.f
  rcases hL with hL | hL | hL <;> rw [hL]
  · have e1 : andM B (bornT 1) = ((B &&& 18446744073709551614 : Nat) : Int) := and_nat B 18446744073709551614 hB (by decide)
    have e2 : andM S (maskT 1) = ((S &&& 18446744073709551615 : Nat) : Int) := and_nat S 18446744073709551615 hS (by decide)
    refine ⟨_, _, _, _, _, rfl, .inl rfl, fun _ => ⟨if_pos rfl, if_pos rfl⟩, ?_, fun h => absurd rfl h⟩
    rw [e1, e2, if_pos rfl, if_pos rfl]
    unfold checkT
    have h0 := badH_none B S 18446744073709551614 18446744073709551615 0 hB hS (by decide) (by decide +kernel) (by decide +kernel)
    have h0' : badH ((B &&& 18446744073709551614 : Nat) : Int) ((S &&& 18446744073709551615 : Nat) : Int) (restT 1) = false := h0
    rw [if_pos (by decide), if_neg (by rw [h0', badH_zero (outT 1) rfl]; decide)]
  · have e1 : andM B (bornT 2) = ((B &&& 14 : Nat) : Int) := and_nat B 14 hB (by decide)
    have e1' : andM B1 (bornT 2) = ((B1 &&& 14 : Nat) : Int) := and_nat B1 14 hB1 (by decide)
    have e2 : andM S (maskT 2) = ((S &&& 15 : Nat) : Int) := and_nat S 15 hS (by decide)
    have e2' : andM S1 (maskT 2) = ((S1 &&& 15 : Nat) : Int) := and_nat S1 15 hS1 (by decide)
    have h0 : badH ((B &&& 14 : Nat) : Int) ((S &&& 15 : Nat) : Int) (restT 2) = false := badH_none B S 14 15 18446744073709551600 hB hS (by decide) (by decide +kernel) (by decide +kernel)
    have h0' : badH ((B1 &&& 14 : Nat) : Int) ((S1 &&& 15 : Nat) : Int) (outT 2) = false := badH_none B1 S1 14 15 18446744073709551600 hB1 hS1 (by decide) (by decide +kernel) (by decide +kernel)
    have h1 : badH ((B &&& 14 : Nat) : Int) ((S &&& 15 : Nat) : Int) (outT 2) = false := h0
    refine ⟨_, _, _, _, _, rfl, .inr (.inl rfl), fun h => absurd h (by decide), ?_, fun _ => ?_⟩
    · rw [if_neg (by decide), if_neg (by decide), e1, e1', e2, e2']
      unfold checkT
      rw [if_pos (by decide), if_neg (by rw [h0, h0']; decide)]
    · rw [e1, e2]
      unfold checkT
      rw [if_pos (by decide), if_neg (by rw [h0, h1]; decide)]
  · have e1 : andM B (bornT 3) = ((B &&& 8190 : Nat) : Int) := and_nat B 8190 hB (by decide)
    have e1' : andM B1 (bornT 3) = ((B1 &&& 8190 : Nat) : Int) := and_nat B1 8190 hB1 (by decide)
    have e2 : andM S (maskT 3) = ((S &&& 8191 : Nat) : Int) := and_nat S 8191 hS (by decide)
    have e2' : andM S1 (maskT 3) = ((S1 &&& 8191 : Nat) : Int) := and_nat S1 8191 hS1 (by decide)
    have h0 : badH ((B &&& 8190 : Nat) : Int) ((S &&& 8191 : Nat) : Int) (restT 3) = false := badH_none B S 8190 8191 18446744073709543424 hB hS (by decide) (by decide +kernel) (by decide +kernel)
    have h0' : badH ((B1 &&& 8190 : Nat) : Int) ((S1 &&& 8191 : Nat) : Int) (outT 3) = false := badH_none B1 S1 8190 8191 18446744073709543424 hB1 hS1 (by decide) (by decide +kernel) (by decide +kernel)
    have h1 : badH ((B &&& 8190 : Nat) : Int) ((S &&& 8191 : Nat) : Int) (outT 3) = false := h0
    refine ⟨_, _, _, _, _, rfl, .inr (.inr rfl), fun h => absurd h (by decide), ?_, fun _ => ?_⟩
    · rw [if_neg (by decide), if_neg (by decide), e1, e1', e2, e2']
      unfold checkT
      rw [if_pos (by decide), if_neg (by rw [h0, h0']; decide)]
    · rw [e1, e2]
      unfold checkT
      rw [if_pos (by decide), if_neg (by rw [h0, h1]; decide)]

/-! what is whole -/
theorem whole_eq (K : Nat) (b0 b1 s0 s1 : Int) : honeycomblaw07_whole.f K 1 b0 b1 s0 s1 = honeycomblaw07_whole.f K 1 0 0 0 0 := by
  unfold honeycomblaw07_whole.f
  rw [if_pos rfl, if_pos rfl]
theorem whole_tab : honeycomblaw07_whole.f 150 1 0 0 0 0 = some (1, 18054054079169302, 0, 10546641918665472585, 0) := by decide +kernel
theorem whole_hex (K : Nat) (hK : 150 ≤ K) (b0 b1 s0 s1 : Int) : honeycomblaw07_whole.f K 1 b0 b1 s0 s1 = some (1, 18054054079169302, 0, 10546641918665472585, 0) :=
  (whole_eq K b0 b1 s0 s1).trans (leO_ge (g := fun k => honeycomblaw07_whole.f k 1 0 0 0 0) (fun k => honeycomblaw07_whole.mono _ _ _ _ _ k) whole_tab K hK)
theorem whole_tri (K : Nat) (L b0 b1 s0 s1 : Int) (h : L ≠ 1) : honeycomblaw07_whole.f K L b0 b1 s0 s1 = some (L, b0, b0, s0, s0) := by
  unfold honeycomblaw07_whole.f
  rw [if_neg h]
theorem total_b : rule_Total.f 150 18054054079169302 = some true := by decide +kernel
theorem total_s : rule_Total.f 150 10546641918665472585 = some true := by decide +kernel
theorem total_B (K : Nat) (hK : 150 ≤ K) : rule_Total.f K 18054054079169302 = some true := leO_ge (g := fun k => rule_Total.f k 18054054079169302) (fun k => rule_Total.mono _ k) total_b K hK
theorem total_S (K : Nat) (hK : 150 ≤ K) : rule_Total.f K 10546641918665472585 = some true := leO_ge (g := fun k => rule_Total.f k 10546641918665472585) (fun k => rule_Total.mono _ k) total_s K hK
theorem whole_kept : ∀ o : Fin 12, ∀ q : Fin 64, badAt 18054054079169302 10546641918665472585 o.1 q.1 = false := by decide +kernel
theorem whole_check : checkT 1 18054054079169302 0 10546641918665472585 0 = none := by decide +kernel

theorem group_j0 (K o : Nat) (L b0 b1 s0 s1 : Int) (hK : 150 ≤ K) (ho : o < 12) (hL : L = 1 ∨ L = 2 ∨ L = 3) (hc : L ≠ 1 → checkT L b0 b0 s0 s0 = none) : honeycomblaw07_IsoGroup.j0 (K + 1) (o : Int) false L b0 b1 s0 s1 = some true := by
  rw [honeycomblaw07_IsoGroup.j0, if_neg (by decide)]
  by_cases h : L = 1
  · subst h
    rw [whole_hex K hK]
    obtain ⟨v, hv, hi⟩ := keeps_any 1 18054054079169302 0 10546641918665472585 0 K o (.inl rfl) (fun _ => ⟨rfl, rfl⟩) (by omega) ho whole_check
    have hvt : v = true := hi.2 (by unfold KP; rw [if_pos rfl]; intro q hq; exact whole_kept ⟨o, ho⟩ ⟨q, hq⟩)
    subst hvt
    simp only [Option.bind_some, hv, ↓reduceIte, total_B K hK, total_S K hK]
  · rw [whole_tri K L b0 b1 s0 s1 h]
    obtain ⟨v, hv, hi⟩ := keeps_any L b0 b0 s0 s0 K o hL (fun e => absurd e h) (by omega) ho (hc h)
    have hvt : v = true := hi.2 (by unfold KP; rw [if_neg h]; exact .inr ⟨rfl, rfl⟩)
    subst hvt
    simp only [Option.bind_some, hv, ↓reduceIte, if_neg h]

/-- IsoGroup, plain -/
theorem group_pure (l a1 a2 : Int) (B B1 S S1 : Nat) (hB : B < 18446744073709551616) (hB1 : B1 < 18446744073709551616) (hS : S < 18446744073709551616) (hS1 : S1 < 18446744073709551616) : ∃ K, honeycomblaw07_IsoGroup.f K l B B1 S S1 a1 a2 = some true := by
  obtain ⟨o, ho, hO⟩ : ∃ o : Nat, o < 12 ∧ Int.tmod (Go.bits .and .i64 a1 255) 12 = o := by
    rw [and_255, Int.tmod_eq_emod_of_nonneg (by omega)]
    exact ⟨(a1 % 256 % 12).toNat, by omega, by omega⟩
  obtain ⟨p, hp, hP⟩ : ∃ p : Nat, p < 12 ∧ Int.tmod (Go.bits .and .i64 a2 255) 12 = p := by
    rw [and_255, Int.tmod_eq_emod_of_nonneg (by omega)]
    exact ⟨(a2 % 256 % 12).toNat, by omega, by omega⟩
  obtain ⟨L, b0, b1, s0, s1, hsome, hL, h1, hc, hc2⟩ := some_check l B B1 S S1 hB hB1 hS hS1
  obtain ⟨K, hK⟩ : ∃ K : Nat, 3200 ≤ K := ⟨3200, Nat.le_refl _⟩
  have keeps := fun q hq => keeps_any L b0 b1 s0 s1 (K + 1) q hL h1 (by omega) hq hc
  obtain ⟨vo, ko, io⟩ := keeps o ho
  obtain ⟨vp, kp, ip⟩ := keeps p hp
  obtain ⟨vt, kt, it⟩ := keeps (thenT o p) (thenT_lt o p ho hp)
  obtain ⟨vb, kb, ib⟩ := keeps (backT o) (backT_lt o ho)
  obtain ⟨vz, kz, iz⟩ := keeps 0 (by omega)
  have hz : vz = true := iz.2 (KP_zero _ _ _ _ _)
  subst hz
  have kz' : iso_Keeps.f (K + 1) L b0 b1 s0 s1 0 = some true := kz
  have hj := group_j0 K o L b0 b1 s0 s1 (by omega) ho hL hc2
  refine ⟨K + 1, ?_⟩
  unfold honeycomblaw07_IsoGroup.f
  simp only [XAwake07.f, Option.bind_some, ↓reduceIte, hsome, hO, hP, ko]
  cases vo with
  | false => simp [kz', hj]
  | true =>
    have hb : vb = true := ib.2 (KP_back _ _ _ _ _ o ho (io.1 rfl))
    subst hb
    have ht : vp = true → vt = true := fun e => it.2 (KP_then _ _ _ _ _ o p ho hp (io.1 rfl) (ip.1 e))
    simp only [↓reduceIte, kp, Option.bind_some]
    cases vp with
    | false => simp [backG_tab ⟨o, ho⟩, kb, kz', hj]
    | true =>
      have e := ht rfl
      subst e
      simp [thenG_tab ⟨o, ho⟩ ⟨p, hp⟩, kt, backG_tab ⟨o, ho⟩, kb, kz', hj]
theorem isoGroup_walk (l b0 b1 s0 s1 a1 a2 : Int) (w : World) (hG : Six w) (hb0 : 0 ≤ b0) (hb0' : b0 < 18446744073709551616) (hb1 : 0 ≤ b1) (hb1' : b1 < 18446744073709551616) (hs0 : 0 ≤ s0) (hs0' : s0 < 18446744073709551616) (hs1 : 0 ≤ s1) (hs1' : s1 < 18446744073709551616) :
    Calls Tryd.prog 10 #[.agg #[.int .i64 l, .int .u64 b0, .int .u64 b1, .int .u64 s0, .int .u64 s1], .int .i64 a1, .int .i64 a2] w fun e w' => e = .returned (.bool true) ∧ Below w.heap.size w w' := by
  obtain ⟨B, rfl⟩ := Int.eq_ofNat_of_zero_le hb0
  obtain ⟨B1, rfl⟩ := Int.eq_ofNat_of_zero_le hb1
  obtain ⟨S, rfl⟩ := Int.eq_ofNat_of_zero_le hs0
  obtain ⟨S1, rfl⟩ := Int.eq_ofNat_of_zero_le hs1
  obtain ⟨K, hK⟩ := group_pure l a1 a2 B B1 S S1 (by omega) (by omega) (by omega) (by omega)
  exact honeycomblaw07_IsoGroup.calls K l B B1 S S1 a1 a2 true w hG hK rfl
end Go.Proofs.YtaeenefdbahfoaaDoor
