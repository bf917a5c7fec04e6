/- Rings, brought by operators: plain. What hexes and Keeps find. -/
import Derived.Test.YtaeenefdbahfoaaDoorHIso0
import Derived.Test.YtaeenefdbahfoaaDoorHIso1
namespace Go.Proofs.YtaeenefdbahfoaaDoor
open Go.RowKit Go.Proofs.YtaeenefdbahfoaaDoorW.PrintWords Go.Proofs.YtaeenefdbahfoaaDoorW.PrintLast Go.Proofs.YtaeenefdbahfoaaDoorW.PrintMore
open H
open Go.RowKit

/-! numbers of 64 bits -/
theorem u64_nat (n : Nat) (h : n < 18446744073709551616) : IntKind.u64.wrap (n : Int) = n := by
  have : IntKind.u64.wrap (n : Int) = (n : Int) % 18446744073709551616 := by simp [IntKind.wrap, IntKind.signed, IntKind.bits]
  rw [this]
  omega
theorem ofInt_nat (n : Nat) (h : n < 18446744073709551616) : (BitVec.ofInt 64 (n : Int)).toNat = n := by
  rw [BitVec.toNat_ofInt]
  omega
theorem and_nat (a c : Nat) (ha : a < 18446744073709551616) (hc : c < 18446744073709551616) : Go.bits .and .u64 (a : Int) (c : Int) = ((a &&& c : Nat) : Int) := by
  have key : (BitVec.ofInt 64 (a : Int) &&& BitVec.ofInt 64 (c : Int)).toNat = a &&& c := by rw [BitVec.toNat_and, ofInt_nat a ha, ofInt_nat c hc]
  show IntKind.u64.wrap ((BitVec.ofInt 64 (a : Int) &&& BitVec.ofInt 64 (c : Int)).toNat : Nat) = _
  rw [key]
  exact u64_nat _ (Nat.lt_of_le_of_lt Nat.and_le_left ha)
theorem or_nat (a c : Nat) (ha : a < 18446744073709551616) (hc : c < 18446744073709551616) : Go.bits .or .u64 (a : Int) (c : Int) = ((a ||| c : Nat) : Int) := by
  have key : (BitVec.ofInt 64 (a : Int) ||| BitVec.ofInt 64 (c : Int)).toNat = a ||| c := by rw [BitVec.toNat_or, ofInt_nat a ha, ofInt_nat c hc]
  show IntKind.u64.wrap ((BitVec.ofInt 64 (a : Int) ||| BitVec.ofInt 64 (c : Int)).toNat : Nat) = _
  rw [key]
  exact u64_nat _ (Nat.or_lt_two_pow (n := 64) ha hc)
theorem shr_nat (a r : Nat) (hr : r < 64) : shr .u64 (a : Int) (r : Int) = ((a >>> r : Nat) : Int) := by
  unfold shr
  rw [show min (r : Int).toNat IntKind.u64.bits = r by simp [IntKind.bits]; omega, Nat.shiftRight_eq_div_pow]
  simp
theorem shl_bit (v t : Nat) (hv : v ≤ 1) (ht : t < 64) : shl .u64 (v : Int) (t : Int) = ((v <<< t : Nat) : Int) := by
  unfold shl
  rw [show min (t : Int).toNat IntKind.u64.bits = t by simp [IntKind.bits]; omega, Nat.shiftLeft_eq]
  have h1 : v * 2 ^ t < 18446744073709551616 := Nat.lt_of_le_of_lt (Nat.mul_le_mul_right _ hv) (by rw [Nat.one_mul]; exact Nat.pow_lt_pow_right (by decide) ht)
  have := u64_nat (v * 2 ^ t) h1
  rw [← this]
  simp
theorem nxB_bit (x n : Nat) (hx : x < 18446744073709551616) : nxB (x : Int) (n : Int) = x.testBit n := by
  unfold nxB
  rw [Int.toNat_natCast, show (x : Int) / 2 ^ n = ((x / 2 ^ n : Nat) : Int) by simp]
  have h1 : x / 2 ^ n < 18446744073709551616 := Nat.lt_of_le_of_lt (Nat.div_le_self _ _) hx
  have := and_nat (x / 2 ^ n) 1 h1 (by decide)
  rw [show ((1 : Nat) : Int) = 1 from rfl] at this
  rw [this, Nat.testBit_eq_decide_div_mod_eq, Nat.and_one_is_mod]
  by_cases h : x / 2 ^ n % 2 = 1
  · rw [h]; rfl
  · have : x / 2 ^ n % 2 = 0 := by omega
    rw [this]; rfl

/-! rings -/
def posT (o i : Nat) : Nat := if o < 6 then (i + o) % 6 else (o + 1 - i) % 6
def brT (o r : Nat) : Nat := r % 2 * 2 ^ posT o 0 + r / 2 % 2 * 2 ^ posT o 1 + r / 4 % 2 * 2 ^ posT o 2 + r / 8 % 2 * 2 ^ posT o 3 + r / 16 % 2 * 2 ^ posT o 4 + r / 32 % 2 * 2 ^ posT o 5
def thenT (o p : Nat) : Nat := if p < 6 then o / 6 * 6 + (o % 6 + p) % 6 else if o < 6 then 6 + (p - o) % 6 else (p + 6 - o % 6) % 6
def backT (o : Nat) : Nat := if 6 ≤ o then o else (6 - o) % 6
theorem br_tab : ∀ o : Fin 12, ∀ r : Fin 64, brN (o.1 : Int) (r.1 : Int) 6 = (brT o.1 r.1 : Int) := by decide +kernel
theorem br_lt : ∀ o : Fin 12, ∀ r : Fin 64, brT o.1 r.1 < 64 := by decide +kernel
theorem br_comp : ∀ o p : Fin 12, ∀ r : Fin 64, brT p.1 (brT o.1 r.1) = brT (thenT o.1 p.1) r.1 := by decide +kernel
theorem br_id : ∀ r : Fin 64, brT 0 r.1 = r.1 := by decide +kernel
theorem then_lt : ∀ o p : Fin 12, thenT o.1 p.1 < 12 := by decide +kernel
theorem back_lt : ∀ o : Fin 12, backT o.1 < 12 := by decide +kernel
theorem then_back : ∀ o : Fin 12, thenT o.1 (backT o.1) = 0 ∧ thenT (backT o.1) o.1 = 0 := by decide +kernel
theorem then_assoc : ∀ o p q : Fin 12, thenT (thenT o.1 p.1) q.1 = thenT o.1 (thenT p.1 q.1) := by decide +kernel
theorem then_zero : ∀ o : Fin 12, thenT 0 o.1 = o.1 ∧ thenT o.1 0 = o.1 := by decide +kernel
theorem br_f (o r : Nat) (ho : o < 12) (hr : r < 64) : XBrought.f (o : Int) (r : Int) = some (brT o r : Int) := by
  unfold XBrought.f
  rw [if_pos (by omega), br_tab ⟨o, ho⟩ ⟨r, hr⟩]
theorem brT_lt (o r : Nat) (ho : o < 12) (hr : r < 64) : brT o r < 64 := br_lt ⟨o, ho⟩ ⟨r, hr⟩
theorem brT_comp (o p r : Nat) (ho : o < 12) (hp : p < 12) (hr : r < 64) : brT p (brT o r) = brT (thenT o p) r := br_comp ⟨o, ho⟩ ⟨p, hp⟩ ⟨r, hr⟩
theorem thenT_lt (o p : Nat) (ho : o < 12) (hp : p < 12) : thenT o p < 12 := then_lt ⟨o, ho⟩ ⟨p, hp⟩
theorem backT_lt (o : Nat) (ho : o < 12) : backT o < 12 := back_lt ⟨o, ho⟩
theorem brT_inj (o r q : Nat) (ho : o < 12) (hr : r < 64) (hq : q < 64) (h : brT o r = brT o q) : r = q := by
  have h1 := brT_comp o (backT o) r ho (backT_lt o ho) hr
  have h2 := brT_comp o (backT o) q ho (backT_lt o ho) hq
  rw [(then_back ⟨o, ho⟩).1] at h1 h2
  have h3 := br_id ⟨r, hr⟩
  have h4 := br_id ⟨q, hq⟩
  simp only at h3 h4
  rw [h] at h1
  omega
theorem brT_on (o r : Nat) (ho : o < 12) (hr : r < 64) : ∃ q, q < 64 ∧ brT o q = r := by
  refine ⟨brT (backT o) r, brT_lt _ _ (backT_lt o ho) hr, ?_⟩
  rw [brT_comp (backT o) o r (backT_lt o ho) ho hr, (then_back ⟨o, ho⟩).2]
  exact br_id ⟨r, hr⟩

/-- a ring that an operator makes another one of -/
def badAt (b s : Int) (o r : Nat) : Bool := (nxB b r != nxB b (brT o r)) || (nxB s r != nxB s (brT o r))
theorem next_f (b0 b1 s0 s1 : Int) (live : Bool) (r : Nat) (hr : r < 64) : XNext.f 1 b0 b1 s0 s1 0 live (r : Int) = some (nxB (if live = true then s0 else b0) (r : Int)) := by
  unfold XNext.f
  rw [if_neg (by omega)]
  simp
theorem wN (r : Nat) (hr : r < 1000) : wrap64 ((r : Int) + 1) = ((r + 1 : Nat) : Int) := by rw [w64i _ (by omega) (by omega)]; simp

variable (b0 b1 s0 s1 : Int)
theorem hex_l2 (k o r : Nat) (ho : o < 12) (hr : r < 64) :
    (badAt b0 s0 o r = true → ∃ res, iso_hexes.l2 (k + 3) o r o r [false, true] 2 0 1 b0 b1 s0 s1 = some res ∧ res.2.2 = true) ∧
    (badAt b0 s0 o r = false → iso_hexes.l2 (k + 3) o r o r [false, true] 2 0 1 b0 b1 s0 s1 = iso_hexes.l1 k o o ((r + 1 : Nat) : Int) 1 b0 b1 s0 s1) := by
  have hb := brT_lt o r ho hr
  have hbr := br_f o r ho hr
  have n0 := next_f b0 b1 s0 s1 false r hr
  have n1 := next_f b0 b1 s0 s1 true r hr
  have m0 := next_f b0 b1 s0 s1 false (brT o r) hb
  have m1 := next_f b0 b1 s0 s1 true (brT o r) hb
  have r0 : rdOf false [false, true] 0 = false := rfl
  have r1 : rdOf false [false, true] 1 = true := rfl
  have w0 : wrap64 (0 + 1) = 1 := by decide +kernel
  have w1 : wrap64 (1 + 1) = 2 := by decide +kernel
  have wr := wN r (by omega)
  have hbad : badAt b0 s0 o r = ((nxB b0 r != nxB b0 (brT o r)) || (nxB s0 r != nxB s0 (brT o r))) := rfl
  rw [hbad]
  simp only [↓reduceIte, Bool.false_eq_true] at n0 n1 m0 m1
  generalize nxB b0 r = x0 at n0 ⊢
  generalize nxB b0 (brT o r) = x1 at m0 ⊢
  generalize nxB s0 r = y0 at n1 ⊢
  generalize nxB s0 (brT o r) = y1 at m1 ⊢
  have e : ∀ k, iso_hexes.l2 (k + 3) o r o r [false, true] 2 0 1 b0 b1 s0 s1 = if (x0 != x1) = true then ((XPattern.f r false).bind fun t122 => some (t122, (o : Int), true)) else if (y0 != y1) = true then ((XPattern.f r true).bind fun t122 => some (t122, (o : Int), true)) else iso_hexes.l1 k o o ((r + 1 : Nat) : Int) 1 b0 b1 s0 s1 := by
    intro k
    rw [show k + 3 = (k + 2) + 1 from rfl, iso_hexes.l2]
    rw [if_pos (by decide), if_pos (by decide), if_pos (by decide), r0, n0, hbr]
    simp only [Option.bind_some, m0]
    split
    · rfl
    · rw [w0, iso_hexes.l2]
      rw [if_pos (by decide), if_pos (by decide), if_pos (by decide), r1, n1, hbr]
      simp only [Option.bind_some, m1]
      split
      · rfl
      · rw [w1, iso_hexes.l2, if_neg (by decide), wr]
  rw [e k]
  constructor
  · intro hb
    rw [Bool.or_eq_true] at hb
    by_cases h0 : (x0 != x1) = true
    · rw [if_pos h0]
      exact ⟨_, rfl, rfl⟩
    · rw [if_neg h0, if_pos (hb.resolve_left h0)]
      exact ⟨_, rfl, rfl⟩
  · intro hb
    rw [Bool.or_eq_false_iff] at hb
    rw [hb.1, hb.2]
    simp
theorem hex_l1 (k o : Nat) (ho : o < 12) : ∀ n r : Nat, r + n = 64 →
    ((∃ q, r ≤ q ∧ q < 64 ∧ badAt b0 s0 o q = true) → ∃ res, iso_hexes.l1 (k + 4 * n + 1) o o (r : Int) 1 b0 b1 s0 s1 = some res ∧ res.2.2 = true) ∧
    ((∀ q, r ≤ q → q < 64 → badAt b0 s0 o q = false) → iso_hexes.l1 (k + 4 * n + 1) o o (r : Int) 1 b0 b1 s0 s1 = iso_hexes.l0 k ((o + 1 : Nat) : Int) 1 b0 b1 s0 s1) := by
  intro n
  induction n with
  | zero =>
    intro r hr
    refine ⟨fun ⟨q, h1, h2, _⟩ => by omega, fun _ => ?_⟩
    rw [iso_hexes.l1, if_neg (by omega), wN o (by omega)]
  | succ n ih =>
    intro r hr
    have hr64 : r < 64 := by omega
    obtain ⟨i1, i2⟩ := ih (r + 1) (by omega)
    obtain ⟨j1, j2⟩ := hex_l2 b0 b1 s0 s1 (k + 4 * n + 1) o r ho hr64
    have e : iso_hexes.l1 (k + 4 * (n + 1) + 1) o o (r : Int) 1 b0 b1 s0 s1 = iso_hexes.l2 (k + 4 * n + 1 + 3) o r o r [false, true] 2 0 1 b0 b1 s0 s1 := by
      rw [show k + 4 * (n + 1) + 1 = (k + 4 * n + 1 + 3) + 1 by omega, iso_hexes.l1, if_pos (by omega)]
      rfl
    rw [e]
    cases hb : badAt b0 s0 o r with
    | true => exact ⟨fun _ => j1 hb, fun h => by rw [h r (Nat.le_refl _) hr64] at hb; cases hb⟩
    | false =>
      rw [j2 hb]
      refine ⟨fun ⟨q, h1, h2, h3⟩ => i1 ⟨q, ?_, h2, h3⟩, fun h => i2 fun q h1 h2 => h q (by omega) h2⟩
      rcases Nat.eq_or_lt_of_le h1 with rfl | h
      · rw [hb] at h3; cases h3
      · omega
theorem hex_l0 (k : Nat) : ∀ n o : Nat, o + n = 12 → ∃ res, iso_hexes.l0 (k + 258 * n + 1) (o : Int) 1 b0 b1 s0 s1 = some res ∧ (res.2.2 = true ↔ ∃ p : Nat, o ≤ p ∧ p < 12 ∧ ∃ q : Nat, q < 64 ∧ badAt b0 s0 p q = true) := by
  intro n
  induction n with
  | zero =>
    intro o ho
    refine ⟨([], 0, false), ?_, by simp; intro p h1 h2; omega⟩
    rw [iso_hexes.l0, if_neg (by omega)]
  | succ n ih =>
    intro o ho
    have h12 : o < 12 := by omega
    obtain ⟨res, hres, hiff⟩ := ih (o + 1) (by omega)
    obtain ⟨j1, j2⟩ := hex_l1 b0 b1 s0 s1 (k + 258 * n + 1) o h12 64 0 (by omega)
    have e : iso_hexes.l0 (k + 258 * (n + 1) + 1) (o : Int) 1 b0 b1 s0 s1 = iso_hexes.l1 (k + 258 * n + 1 + 4 * 64 + 1) o o ((0 : Nat) : Int) 1 b0 b1 s0 s1 := by
      rw [show k + 258 * (n + 1) + 1 = (k + 258 * n + 1 + 4 * 64 + 1) + 1 by omega, iso_hexes.l0, if_pos (by omega)]
      rfl
    rw [e]
    by_cases hb : ∃ q, 0 ≤ q ∧ q < 64 ∧ badAt b0 s0 o q = true
    · obtain ⟨r1, h1, h2⟩ := j1 hb
      refine ⟨r1, h1, fun _ => ?_, fun _ => h2⟩
      obtain ⟨q, _, h3, h4⟩ := hb
      exact ⟨o, Nat.le_refl _, h12, q, h3, h4⟩
    · have hnb : ∀ q, 0 ≤ q → q < 64 → badAt b0 s0 o q = false := fun q h1 h2 => by
        cases h : badAt b0 s0 o q with
        | false => rfl
        | true => exact absurd ⟨q, h1, h2, h⟩ hb
      rw [j2 hnb]
      refine ⟨res, hres, hiff.trans ⟨fun ⟨p, h1, h2, h3⟩ => ⟨p, by omega, h2, h3⟩, fun ⟨p, h1, h2, q, h3, h4⟩ => ⟨p, ?_, h2, q, h3, h4⟩⟩⟩
      rcases Nat.eq_or_lt_of_le h1 with rfl | h
      · exact absurd ⟨q, Nat.zero_le _, h3, h4⟩ hb
      · omega
theorem hexes_f (k : Nat) : ∃ res, iso_hexes.f (k + 3097) 1 b0 b1 s0 s1 = some res ∧ (res.2.2 = true ↔ ∃ p : Nat, p < 12 ∧ ∃ q : Nat, q < 64 ∧ badAt b0 s0 p q = true) := by
  obtain ⟨res, h1, h2⟩ := hex_l0 b0 b1 s0 s1 k 12 0 (by omega)
  exact ⟨res, h1, h2.trans ⟨fun ⟨p, _, h⟩ => ⟨p, h⟩, fun ⟨p, h⟩ => ⟨p, Nat.zero_le _, h⟩⟩⟩
/-- what Check finds of a table of hexagons that may be -/
theorem check_hex (k : Nat) (hc : checkT 1 b0 b1 s0 s1 = none) : ∃ res, iso_Check.f (k + 3097) 1 b0 b1 s0 s1 = some res ∧ res.2.2.2 = none ∧ (res.2.2.1 = true ↔ ∃ p : Nat, p < 12 ∧ ∃ q : Nat, q < 64 ∧ badAt b0 s0 p q = true) := by
  obtain ⟨res, h1, h2⟩ := hexes_f b0 b1 s0 s1 k
  unfold iso_Check.f
  rw [show XTCheck.f 1 b0 b1 s0 s1 = some none by unfold XTCheck.f; rw [hc]]
  refine ⟨(res.1, res.2.1, res.2.2, none), ?_, rfl, h2⟩
  simp only [Option.bind_some, Option.isNone_none, ↓reduceIte, h1]
theorem keeps_l0 (k p : Nat) (hp : p < 12) : ∀ n r : Nat, r + n = 64 → ∃ v, iso_Keeps.l0 (k + n + 1) (p : Int) (r : Int) 1 b0 b1 s0 s1 = some v ∧ (v = true ↔ ∀ q, r ≤ q → q < 64 → badAt b0 s0 p q = false) := by
  intro n
  induction n with
  | zero =>
    intro r hr
    refine ⟨true, ?_, by simp; intro q h1 h2; omega⟩
    rw [iso_Keeps.l0, if_neg (by omega)]
  | succ n ih =>
    intro r hr
    have hr64 : r < 64 := by omega
    obtain ⟨v, hv, hiff⟩ := ih (r + 1) (by omega)
    have hb := brT_lt p r hp hr64
    have n0 := next_f b0 b1 s0 s1 false r hr64
    have n1 := next_f b0 b1 s0 s1 true r hr64
    have m0 := next_f b0 b1 s0 s1 false (brT p r) hb
    have m1 := next_f b0 b1 s0 s1 true (brT p r) hb
    simp only [↓reduceIte, Bool.false_eq_true] at n0 n1 m0 m1
    have hbad : badAt b0 s0 p r = ((nxB b0 r != nxB b0 (brT p r)) || (nxB s0 r != nxB s0 (brT p r))) := rfl
    rw [show k + (n + 1) + 1 = (k + n + 1) + 1 by omega, iso_Keeps.l0, if_pos (by omega), br_f p r hp hr64]
    simp only [Option.bind_some, n0, m0, n1, m1, wN r (by omega)]
    cases h0 : (nxB b0 (r : Int) != nxB b0 (brT p r : Int)) with
    | true => exact ⟨false, by simp, by simp; exact ⟨r, Nat.le_refl _, hr64, by rw [hbad, h0]; rfl⟩⟩
    | false =>
      cases h1 : (nxB s0 (r : Int) != nxB s0 (brT p r : Int)) with
      | true => exact ⟨false, by simp, by simp; exact ⟨r, Nat.le_refl _, hr64, by rw [hbad, h0, h1]; rfl⟩⟩
      | false =>
        refine ⟨v, by simpa using hv, hiff.trans ⟨fun h q h2 h3 => ?_, fun h q h2 h3 => h q (by omega) h3⟩⟩
        rcases Nat.eq_or_lt_of_le h2 with rfl | h4
        · rw [hbad, h0, h1]; rfl
        · exact h q h4 h3
theorem good_f (p : Nat) (hp : p < 12) : axis_Operator_Good.f (p : Int) = some true := by
  unfold axis_Operator_Good.f
  simp
  omega
theorem keeps_hex (k p : Nat) (hp : p < 12) (hc : checkT 1 b0 b1 s0 s1 = none) : ∃ v, iso_Keeps.f (k + 66) 1 b0 b1 s0 s1 (p : Int) = some v ∧ (v = true ↔ ∀ q, q < 64 → badAt b0 s0 p q = false) := by
  obtain ⟨v, h1, h2⟩ := keeps_l0 b0 b1 s0 s1 k p hp 64 0 (by omega)
  refine ⟨v, ?_, h2.trans ⟨fun h q => h q (Nat.zero_le _), fun h q _ => h q⟩⟩
  unfold iso_Keeps.f
  rw [show XTCheck.f 1 b0 b1 s0 s1 = some none by unfold XTCheck.f; rw [hc]]
  simp only [Option.bind_some, Option.isNone_none, ↓reduceIte, good_f p hp]
  rw [show k + 66 = (k + 65) + 1 from rfl, iso_Keeps.j0]
  simpa using h1
end Go.Proofs.YtaeenefdbahfoaaDoor
