/- IsoTurned: the plain law: a table of hexagons that is turned. -/
import Derived.Test.YtaeenefdbahfoaaDoorPRing
import Derived.Test.YtaeenefdbahfoaaDoorHhoneycomblaw07IsoTurned
namespace Go.Proofs.YtaeenefdbahfoaaDoor
open Go.RowKit Go.Proofs.YtaeenefdbahfoaaDoorW.PrintWords Go.Proofs.YtaeenefdbahfoaaDoorW.PrintLast Go.Proofs.YtaeenefdbahfoaaDoorW.PrintMore
open H
open Go.RowKit

theorem leO_add {α : Type} {g : Nat → Option α} (h : ∀ k, LeO (g k) (g (k + 1))) {n : Nat} {r : α} (hn : g n = some r) : ∀ m, g (n + m) = some r
  | 0 => hn
  | m + 1 => h (n + m) r (leO_add h hn m)
theorem turned_tab : ∀ o : Fin 12, ∀ r : Fin 64, honeycombref07_Turned.f 200 (o.1 : Int) (r.1 : Int) = some (brT o.1 r.1 : Int) := by decide +kernel
theorem turned_f (K o r : Nat) (hK : 200 ≤ K) (ho : o < 12) (hr : r < 64) : honeycombref07_Turned.f K (o : Int) (r : Int) = some (brT o r : Int) := by
  obtain ⟨k, rfl⟩ : ∃ k, K = 200 + k := ⟨K - 200, by omega⟩
  exact leO_add (g := fun k => honeycombref07_Turned.f k (o : Int) (r : Int)) (fun k => honeycombref07_Turned.mono _ _ k) (turned_tab ⟨o, ho⟩ ⟨r, hr⟩) k
theorem thenF_tab : ∀ o p : Fin 12, axis_Operator_Then.f (o.1 : Int) (p.1 : Int) = some (thenT o.1 p.1 : Int) := by decide +kernel
theorem thenF (o p : Nat) (ho : o < 12) (hp : p < 12) : axis_Operator_Then.f (o : Int) (p : Int) = some (thenT o p : Int) := thenF_tab ⟨o, ho⟩ ⟨p, hp⟩
theorem backF_tab : ∀ o : Fin 12, axis_Operator_Back.f (o.1 : Int) = some (backT o.1 : Int) := by decide +kernel
theorem backF (o : Nat) (ho : o < 12) : axis_Operator_Back.f (o : Int) = some (backT o : Int) := backF_tab ⟨o, ho⟩
theorem awake07_f : honeycomblaw07_awake.f 100 = some true := by decide +kernel
theorem awake07 (K : Nat) (hK : 100 ≤ K) : honeycomblaw07_awake.f K = some true := by
  obtain ⟨k, rfl⟩ : ∃ k, K = 100 + k := ⟨K - 100, by omega⟩
  exact leO_add (g := fun k => honeycomblaw07_awake.f k) (fun k => honeycomblaw07_awake.mono k) awake07_f k

/-- a table's bits, brought so far -/
def foldB (b o : Nat) : Nat → Nat
  | 0 => 0
  | r + 1 => foldB b o r ||| ((b >>> r &&& 1) <<< brT o r)
theorem foldB_bit (b o : Nat) : ∀ R j, (foldB b o R).testBit j = true ↔ ∃ r, r < R ∧ brT o r = j ∧ b.testBit r = true := by
  intro R
  induction R with
  | zero => intro j; simp [foldB]
  | succ R ih =>
    intro j
    have h1 : ((b >>> R &&& 1) <<< brT o R).testBit j = true ↔ brT o R = j ∧ b.testBit R = true := by
      rw [Nat.testBit_eq_decide_div_mod_eq (x := b), Nat.and_one_is_mod, Nat.shiftRight_eq_div_pow, decide_eq_true_eq, Nat.shiftLeft_eq]
      have h2 : b / 2 ^ R % 2 = 0 ∨ b / 2 ^ R % 2 = 1 := by omega
      rcases h2 with h2 | h2 <;> rw [h2]
      · simp
      · rw [Nat.one_mul, Nat.testBit_two_pow]
        simp
    unfold foldB
    rw [Nat.testBit_or, Bool.or_eq_true, ih, h1]
    constructor
    · rintro (⟨r, h2, h3, h4⟩ | ⟨h2, h3⟩)
      · exact ⟨r, by omega, h3, h4⟩
      · exact ⟨R, by omega, h2, h3⟩
    · rintro ⟨r, h2, h3, h4⟩
      rcases Nat.lt_or_ge r R with h | h
      · exact .inl ⟨r, h, h3, h4⟩
      · obtain rfl : r = R := by omega
        exact .inr ⟨h3, h4⟩
theorem bit_le (b r : Nat) : b >>> r &&& 1 ≤ 1 := by rw [Nat.and_one_is_mod]; omega
theorem bit_shl (v t : Nat) (hv : v ≤ 1) (ht : t < 64) : v <<< t < 18446744073709551616 := by
  rw [Nat.shiftLeft_eq]
  exact Nat.lt_of_le_of_lt (Nat.mul_le_mul_right _ hv) (by rw [Nat.one_mul]; exact Nat.pow_lt_pow_right (by decide) ht)
theorem foldB_lt (b o : Nat) (ho : o < 12) : ∀ R, R ≤ 64 → foldB b o R < 18446744073709551616
  | 0, _ => by simp [foldB]
  | R + 1, h => Nat.or_lt_two_pow (n := 64) (foldB_lt b o ho R (by omega)) (bit_shl _ _ (bit_le _ _) (brT_lt o R ho (by omega)))
theorem step_bit (x b r t : Nat) (hx : x < 18446744073709551616) (hb : b < 18446744073709551616) (hr : r < 64) (ht : t < 64) :
    Go.bits .or .u64 (x : Int) (shl .u64 (Go.bits .and .u64 (shr .u64 (b : Int) (r : Int)) 1) (t : Int)) = ((x ||| ((b >>> r &&& 1) <<< t) : Nat) : Int) := by
  have h1 : b >>> r < 18446744073709551616 := by rw [Nat.shiftRight_eq_div_pow]; exact Nat.lt_of_le_of_lt (Nat.div_le_self _ _) hb
  have := and_nat (b >>> r) 1 h1 (by decide)
  rw [shr_nat b r hr, show (1 : Int) = ((1 : Nat) : Int) from rfl, this, shl_bit _ t (bit_le b r) ht, or_nat x _ hx (bit_shl _ t (bit_le b r) ht)]
/-- one round -/
theorem turned_step (M o r t : Nat) (hr : r < 64) (hT : honeycombref07_Turned.f M (o : Int) (r : Int) = some (t : Int)) (p x0 b x2 s y0 y1 x y2 y : Int) :
    honeycomblaw07_IsoTurned.l0 (M + 1) (o : Int) p (r : Int) x0 b x2 s y0 y1 x y2 y 0 =
    honeycomblaw07_IsoTurned.l0 M (o : Int) p (wrap64 ((r : Int) + 1)) x0 b x2 s y0 y1 (Go.bits .or .u64 x (shl .u64 (Go.bits .and .u64 (shr .u64 b (r : Int)) 1) (t : Int))) y2 (Go.bits .or .u64 y (shl .u64 (Go.bits .and .u64 (shr .u64 s (r : Int)) 1) (t : Int))) 0 := by
  rw [honeycomblaw07_IsoTurned.l0, if_pos (by omega), hT]
  simp only [Option.bind_some]
  rw [if_pos (by omega), if_pos (by omega)]
theorem turned_l0 (R m o p b s : Nat) (hR : R = 64) (hm : 200 ≤ m) (ho : o < 12) (hb : b < 18446744073709551616) (hs : s < 18446744073709551616) (x0 x2 y0 y1 y2 : Int) : ∀ n r : Nat, r + n = R →
    honeycomblaw07_IsoTurned.l0 (m + n + 1) (o : Int) (p : Int) (r : Int) x0 b x2 s y0 y1 (foldB b o r) y2 (foldB s o r) 0 =
    honeycomblaw07_IsoTurned.l0 (m + 1) (o : Int) (p : Int) (R : Int) x0 b x2 s y0 y1 (foldB b o R) y2 (foldB s o R) 0 := by
  intro n
  induction n with
  | zero =>
    intro r hr
    have : r = R := by omega
    subst this
    rfl
  | succ n ih =>
    intro r hr
    have hr64 : r < 64 := by omega
    have hx := foldB_lt b o ho r (by omega)
    have hy := foldB_lt s o ho r (by omega)
    have ht := brT_lt o r ho hr64
    have e1 := step_bit (foldB b o r) b r (brT o r) hx hb hr64 ht
    have e2 := step_bit (foldB s o r) s r (brT o r) hy hs hr64 ht
    have f1 : foldB b o (r + 1) = foldB b o r ||| ((b >>> r &&& 1) <<< brT o r) := rfl
    have f2 : foldB s o (r + 1) = foldB s o r ||| ((s >>> r &&& 1) <<< brT o r) := rfl
    rw [← f1] at e1
    rw [← f2] at e2
    have hi := ih (r + 1) (by omega)
    have hT := turned_f (m + n + 1) o r (by omega) ho hr64
    have hs := turned_step (m + n + 1) o r (brT o r) hr64 hT p x0 b x2 s y0 y1 (foldB b o r) y2 (foldB s o r)
    rw [wN r (by omega), e1, e2] at hs
    exact hs.trans hi

theorem turned_end (m : Nat) (o p b s U V z y1 y R : Int) (rt ru : List S65 × Int × Bool × Option Int) (v : Bool) (hR : ¬ R < 64)
    (h1 : axis_Operator_Back.f o = some z) (h2 : iso_Check.f m 1 b 0 s 0 = some rt) (h3 : iso_Check.f m 1 U 0 V 0 = some ru) (h4 : rt.2.2.2 = none) (h5 : ru.2.2.2 = none) (h6 : rt.2.2.1 = ru.2.2.1)
    (h7 : iso_Keeps.f m 1 b 0 s 0 p = some v) (h8 : axis_Operator_Then.f z p = some y1) (h9 : axis_Operator_Then.f y1 o = some y) (h10 : iso_Keeps.f m 1 U 0 V 0 y = some v) :
    honeycomblaw07_IsoTurned.l0 (m + 1) o p R 1 b 0 s 0 1 U 0 V 0 = some true := by
  rw [honeycomblaw07_IsoTurned.l0, if_neg hR, h1]
  simp only [Option.bind_some, h2, h3, h4, h5, h6, Option.isNone_none, ↓reduceIte, beq_self_eq_true, h7, h8, h9, h10]

theorem conj1 : ∀ o p : Fin 12, thenT o.1 (thenT (thenT (backT o.1) p.1) o.1) = thenT p.1 o.1 := by decide +kernel
theorem conj2 : ∀ o p : Fin 12, thenT (thenT (thenT o.1 p.1) (backT o.1)) o.1 = thenT o.1 p.1 := by decide +kernel
theorem fold_next (b o r R : Nat) (hR : R = 64) (ho : o < 12) (hr : r < 64) (hb : b < 18446744073709551616) : nxB ((foldB b o R : Nat) : Int) ((brT o r : Nat) : Int) = nxB (b : Int) (r : Int) := by
  rw [nxB_bit _ _ (foldB_lt b o ho R (by omega)), nxB_bit _ _ hb]
  rw [Bool.eq_iff_iff, foldB_bit]
  constructor
  · rintro ⟨q, h1, h2, h3⟩
    rw [brT_inj o q r ho (by omega) hr h2] at h3
    exact h3
  · intro h
    exact ⟨r, by omega, rfl, h⟩
theorem bad_conj (b s U V : Int) (o q q' r : Nat) (ho : o < 12) (hq : q < 12) (hq' : q' < 12) (hr : r < 64) (hc : thenT o q' = thenT q o)
    (hU : ∀ r : Nat, r < 64 → nxB U ((brT o r : Nat) : Int) = nxB b (r : Int)) (hV : ∀ r : Nat, r < 64 → nxB V ((brT o r : Nat) : Int) = nxB s (r : Int)) : badAt U V q' (brT o r) = badAt b s q r := by
  unfold badAt
  rw [brT_comp o q' r ho hq' hr, hc, ← brT_comp q o r hq ho hr, hU r hr, hV r hr, hU _ (brT_lt q r hq hr), hV _ (brT_lt q r hq hr)]
theorem check_none (b s : Nat) (hb : b < 18446744073709551616) (hs : s < 18446744073709551616) (h0 : b.testBit 0 = false) : checkT 1 (b : Int) 0 (s : Int) 0 = none := by
  have e1 : badH (b : Int) (s : Int) 0 = false := by
    unfold badH
    rw [show Go.bits .or .u64 0 1 = ((1 : Nat) : Int) by decide +kernel, and_nat b 1 hb (by decide), show (0 : Int) = ((0 : Nat) : Int) from rfl, and_nat s 0 hs (by decide)]
    have : b &&& 1 = 0 := by
      rw [Nat.and_one_is_mod]
      rw [Nat.testBit_zero, decide_eq_false_iff_not] at h0
      omega
    rw [this]
    simp
  have e2 : badH 0 0 (outT 1) = false := by decide +kernel
  unfold checkT
  rw [if_pos (by omega), if_neg]
  rw [show restT 1 = 0 from rfl, e1, e2]
  decide

/-- IsoTurned, plain -/
theorem turned_pure (l a1 a2 : Int) (B B1 S S1 : Nat) (hB : B < 18446744073709551616) (hS : S < 18446744073709551616) : ∃ K, honeycomblaw07_IsoTurned.f K l B B1 S S1 a1 a2 = some true := by
  obtain ⟨o, ho, hO⟩ : ∃ o : Nat, o < 12 ∧ Int.tmod (Go.bits .and .i64 a1 255) 12 = o := by
    rw [and_255, Int.tmod_eq_emod_of_nonneg (by omega)]
    exact ⟨(a1 % 256 % 12).toNat, by omega, by omega⟩
  obtain ⟨p, hp, hP⟩ : ∃ p : Nat, p < 12 ∧ Int.tmod (Go.bits .and .i64 a2 255) 12 = p := by
    rw [and_255, Int.tmod_eq_emod_of_nonneg (by omega)]
    exact ⟨(a2 % 256 % 12).toNat, by omega, by omega⟩
  obtain ⟨b, hb, hb0, hbe⟩ : ∃ b : Nat, b < 18446744073709551616 ∧ b.testBit 0 = false ∧ andM B (bornT 1) = (b : Int) := by
    refine ⟨B &&& 18446744073709551614, Nat.lt_of_le_of_lt Nat.and_le_left hB, ?_, and_nat B 18446744073709551614 hB (by decide)⟩
    rw [Nat.testBit_and]
    simp
  obtain ⟨s, hs, hse⟩ : ∃ s : Nat, s < 18446744073709551616 ∧ andM S (maskT 1) = (s : Int) :=
    ⟨S &&& 18446744073709551615, Nat.lt_of_le_of_lt Nat.and_le_left hS, and_nat S 18446744073709551615 hS (by decide)⟩
  have hsome : XSome5.f 0 B B1 S S1 = some (1, (b : Int), 0, (s : Int), 0) := by
    unfold XSome5.f
    rw [show latT 0 = 1 by decide, if_pos rfl, if_pos rfl, hbe, hse]
  obtain ⟨R, hR⟩ : ∃ R : Nat, R = 64 := ⟨_, rfl⟩
  obtain ⟨m, hm⟩ : ∃ m : Nat, 3097 ≤ m := ⟨_, Nat.le_refl _⟩
  have hU := fun r hr => fold_next b o r R hR ho hr hb
  have hV := fun r hr => fold_next s o r R hR ho hr hs
  have hUl := foldB_lt b o ho R (by omega)
  have hVl := foldB_lt s o ho R (by omega)
  have hU0 : (foldB b o R).testBit 0 = false := by
    cases h : (foldB b o R).testBit 0 with
    | false => rfl
    | true =>
      obtain ⟨r, h1, h2, h3⟩ := (foldB_bit b o R 0).1 h
      have h4 : brT o 0 = 0 := by
        have : ∀ o : Fin 12, brT o.1 0 = 0 := by decide +kernel
        exact this ⟨o, ho⟩
      rw [brT_inj o r 0 ho (by omega) (by omega) (h2.trans h4.symm)] at h3
      rw [hb0] at h3
      cases h3
  have hst := turned_l0 R m o p b s hR (by omega) ho hb hs 1 0 0 1 0 R 0 (by omega)
  have ct := check_none b s hb hs hb0
  have cu := check_none (foldB b o R) (foldB s o R) hUl hVl hU0
  generalize foldB b o R = U at *
  generalize foldB s o R = V at *
  obtain ⟨k, hk⟩ : ∃ k, m = k + 3097 := ⟨m - 3097, by omega⟩
  obtain ⟨rt, t1, t2, t3⟩ := check_hex b 0 s 0 k ct
  obtain ⟨ru, u1, u2, u3⟩ := check_hex U 0 V 0 k cu
  obtain ⟨k2, hk2⟩ : ∃ k, m = k + 66 := ⟨m - 66, by omega⟩
  have hz := backT_lt o ho
  have hzp := thenT_lt _ p hz hp
  have hy := thenT_lt _ o hzp ho
  obtain ⟨v, v1, v2⟩ := keeps_hex b 0 s 0 k2 p hp ct
  obtain ⟨v', v3, v4⟩ := keeps_hex U 0 V 0 k2 _ hy cu
  rw [← hk] at t1 u1
  rw [← hk2] at v1 v3
  clear hk hk2
  have hflag : rt.2.2.1 = ru.2.2.1 := by
    rw [Bool.eq_iff_iff, t3, u3]
    constructor
    · rintro ⟨q, h1, r, h2, h3⟩
      have hq := thenT_lt _ o (thenT_lt _ q hz h1) ho
      refine ⟨_, hq, brT o r, brT_lt o r ho h2, ?_⟩
      rw [bad_conj b s U V o q _ r ho h1 hq h2 (conj1 ⟨o, ho⟩ ⟨q, h1⟩) hU hV]
      exact h3
    · rintro ⟨q, h1, r', h2, h3⟩
      obtain ⟨r, hr, rfl⟩ := brT_on o r' ho h2
      have hq := thenT_lt _ _ (thenT_lt o q ho h1) hz
      refine ⟨_, hq, r, hr, ?_⟩
      rw [← bad_conj b s U V o _ q r ho hq h1 hr (conj2 ⟨o, ho⟩ ⟨q, h1⟩).symm hU hV]
      exact h3
  have hvv : v' = v := by
    rw [Bool.eq_iff_iff, v2, v4]
    constructor
    · intro h r hr
      rw [← bad_conj b s U V o p _ r ho hp hy hr (conj1 ⟨o, ho⟩ ⟨p, hp⟩) hU hV]
      exact h _ (brT_lt o r ho hr)
    · intro h r' hr'
      obtain ⟨r, hr, rfl⟩ := brT_on o r' ho hr'
      rw [bad_conj b s U V o p _ r ho hp hy hr (conj1 ⟨o, ho⟩ ⟨p, hp⟩) hU hV]
      exact h r hr
  rw [hvv] at v3
  have hend := turned_end m o p b s U V _ _ _ R rt ru v (by omega) (backF o ho) t1 u1 t2 u2 hflag v1 (thenF _ p hz hp) (thenF _ o hzp ho) v3
  refine ⟨m + R + 1, ?_⟩
  unfold honeycomblaw07_IsoTurned.f
  rw [awake07 (m + R + 1) (by omega)]
  simp only [Option.bind_some, ↓reduceIte, hsome, hO, hP]
  exact hst.trans hend

/-- IsoTurned, walked -/
theorem isoTurned_walk (l b0 b1 s0 s1 a1 a2 : Int) (w : World) (hG : Six w) (hb0 : 0 ≤ b0) (hb0' : b0 < 18446744073709551616) (hb1 : 0 ≤ b1) (hs0 : 0 ≤ s0) (hs0' : s0 < 18446744073709551616) (hs1 : 0 ≤ s1) :
    Calls Tryd.prog 3 #[.agg #[.int .i64 l, .int .u64 b0, .int .u64 b1, .int .u64 s0, .int .u64 s1], .int .i64 a1, .int .i64 a2] w fun e w' => e = .returned (.bool true) ∧ Below w.heap.size w w' := by
  obtain ⟨B, rfl⟩ := Int.eq_ofNat_of_zero_le hb0
  obtain ⟨B1, rfl⟩ := Int.eq_ofNat_of_zero_le hb1
  obtain ⟨S, rfl⟩ := Int.eq_ofNat_of_zero_le hs0
  obtain ⟨S1, rfl⟩ := Int.eq_ofNat_of_zero_le hs1
  obtain ⟨K, hK⟩ := turned_pure l a1 a2 B B1 S S1 (by omega) (by omega)
  exact honeycomblaw07_IsoTurned.calls K l B B1 S S1 a1 a2 true w hG hK rfl
end Go.Proofs.YtaeenefdbahfoaaDoor
