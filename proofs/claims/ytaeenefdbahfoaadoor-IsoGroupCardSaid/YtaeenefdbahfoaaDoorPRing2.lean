/- Rings, brought by operators: plain. What Keeps finds. -/
import Derived.Test.YtaeenefdbahfoaaDoorHIso1
namespace Go.Proofs.YtaeenefdbahfoaaDoor
open Go.RowKit Go.Proofs.YtaeenefdbahfoaaDoorW.PrintWords Go.Proofs.YtaeenefdbahfoaaDoorW.PrintLast Go.Proofs.YtaeenefdbahfoaaDoorW.PrintMore
open H
open Go.RowKit

/-! numbers of 64 bits -/
theorem u64_nat (n : Nat) (h : n < 18446744073709551616) : IntKind.u64.wrap (n : Int) = n := by
  have : IntKind.u64.wrap (n : Int) = (n : Int) % 18446744073709551616 := by simp [IntKind.wrap, IntKind.signed, IntKind.bits]
  rw [this]
  omega
theorem ofInt_nat (n : Nat) (h : n < 18446744073709551616) : (BitVec.ofInt 64 (n : Int)).toNat = n := by
  rw [BitVec.toNat_ofInt]
  omega
theorem and_nat (a c : Nat) (ha : a < 18446744073709551616) (hc : c < 18446744073709551616) : Go.bits .and .u64 (a : Int) (c : Int) = ((a &&& c : Nat) : Int) := by
  have key : (BitVec.ofInt 64 (a : Int) &&& BitVec.ofInt 64 (c : Int)).toNat = a &&& c := by rw [BitVec.toNat_and, ofInt_nat a ha, ofInt_nat c hc]
  show IntKind.u64.wrap ((BitVec.ofInt 64 (a : Int) &&& BitVec.ofInt 64 (c : Int)).toNat : Nat) = _
  rw [key]
  exact u64_nat _ (Nat.lt_of_le_of_lt Nat.and_le_left ha)
theorem or_nat (a c : Nat) (ha : a < 18446744073709551616) (hc : c < 18446744073709551616) : Go.bits .or .u64 (a : Int) (c : Int) = ((a ||| c : Nat) : Int) := by
  have key : (BitVec.ofInt 64 (a : Int) ||| BitVec.ofInt 64 (c : Int)).toNat = a ||| c := by rw [BitVec.toNat_or, ofInt_nat a ha, ofInt_nat c hc]
  show IntKind.u64.wrap ((BitVec.ofInt 64 (a : Int) ||| BitVec.ofInt 64 (c : Int)).toNat : Nat) = _
  rw [key]
  exact u64_nat _ (Nat.or_lt_two_pow (n := 64) ha hc)
theorem shr_nat (a r : Nat) (hr : r < 64) : shr .u64 (a : Int) (r : Int) = ((a >>> r : Nat) : Int) := by
  unfold shr
  rw [show min (r : Int).toNat IntKind.u64.bits = r by simp [IntKind.bits]; omega, Nat.shiftRight_eq_div_pow]
  simp
theorem shl_bit (v t : Nat) (hv : v ≤ 1) (ht : t < 64) : shl .u64 (v : Int) (t : Int) = ((v <<< t : Nat) : Int) := by
  unfold shl
  rw [show min (t : Int).toNat IntKind.u64.bits = t by simp [IntKind.bits]; omega, Nat.shiftLeft_eq]
  have h1 : v * 2 ^ t < 18446744073709551616 := Nat.lt_of_le_of_lt (Nat.mul_le_mul_right _ hv) (by rw [Nat.one_mul]; exact Nat.pow_lt_pow_right (by decide) ht)
  have := u64_nat (v * 2 ^ t) h1
  rw [← this]
  simp
theorem nxB_bit (x n : Nat) (hx : x < 18446744073709551616) : nxB (x : Int) (n : Int) = x.testBit n := by
  unfold nxB
  rw [Int.toNat_natCast, show (x : Int) / 2 ^ n = ((x / 2 ^ n : Nat) : Int) by simp]
  have h1 : x / 2 ^ n < 18446744073709551616 := Nat.lt_of_le_of_lt (Nat.div_le_self _ _) hx
  have := and_nat (x / 2 ^ n) 1 h1 (by decide)
  rw [show ((1 : Nat) : Int) = 1 from rfl] at this
  rw [this, Nat.testBit_eq_decide_div_mod_eq, Nat.and_one_is_mod]
  by_cases h : x / 2 ^ n % 2 = 1
  · rw [h]; rfl
  · have : x / 2 ^ n % 2 = 0 := by omega
    rw [this]; rfl

/-! rings -/
def posT (o i : Nat) : Nat := if o < 6 then (i + o) % 6 else (o + 1 - i) % 6
def brT (o r : Nat) : Nat := r % 2 * 2 ^ posT o 0 + r / 2 % 2 * 2 ^ posT o 1 + r / 4 % 2 * 2 ^ posT o 2 + r / 8 % 2 * 2 ^ posT o 3 + r / 16 % 2 * 2 ^ posT o 4 + r / 32 % 2 * 2 ^ posT o 5
def thenT (o p : Nat) : Nat := if p < 6 then o / 6 * 6 + (o % 6 + p) % 6 else if o < 6 then 6 + (p - o) % 6 else (p + 6 - o % 6) % 6
def backT (o : Nat) : Nat := if 6 ≤ o then o else (6 - o) % 6
theorem br_tab : ∀ o : Fin 12, ∀ r : Fin 64, brN (o.1 : Int) (r.1 : Int) 6 = (brT o.1 r.1 : Int) := by decide +kernel
theorem br_lt : ∀ o : Fin 12, ∀ r : Fin 64, brT o.1 r.1 < 64 := by decide +kernel
theorem br_comp : ∀ o p : Fin 12, ∀ r : Fin 64, brT p.1 (brT o.1 r.1) = brT (thenT o.1 p.1) r.1 := by decide +kernel
theorem br_id : ∀ r : Fin 64, brT 0 r.1 = r.1 := by decide +kernel
theorem then_lt : ∀ o p : Fin 12, thenT o.1 p.1 < 12 := by decide +kernel
theorem back_lt : ∀ o : Fin 12, backT o.1 < 12 := by decide +kernel
theorem then_back : ∀ o : Fin 12, thenT o.1 (backT o.1) = 0 ∧ thenT (backT o.1) o.1 = 0 := by decide +kernel
theorem then_assoc : ∀ o p q : Fin 12, thenT (thenT o.1 p.1) q.1 = thenT o.1 (thenT p.1 q.1) := by decide +kernel
theorem then_zero : ∀ o : Fin 12, thenT 0 o.1 = o.1 ∧ thenT o.1 0 = o.1 := by decide +kernel
theorem br_f (o r : Nat) (ho : o < 12) (hr : r < 64) : XBrought.f (o : Int) (r : Int) = some (brT o r : Int) := by
  unfold XBrought.f
  rw [if_pos (by omega), br_tab ⟨o, ho⟩ ⟨r, hr⟩]
theorem brT_lt (o r : Nat) (ho : o < 12) (hr : r < 64) : brT o r < 64 := br_lt ⟨o, ho⟩ ⟨r, hr⟩
theorem brT_comp (o p r : Nat) (ho : o < 12) (hp : p < 12) (hr : r < 64) : brT p (brT o r) = brT (thenT o p) r := br_comp ⟨o, ho⟩ ⟨p, hp⟩ ⟨r, hr⟩
theorem thenT_lt (o p : Nat) (ho : o < 12) (hp : p < 12) : thenT o p < 12 := then_lt ⟨o, ho⟩ ⟨p, hp⟩
theorem backT_lt (o : Nat) (ho : o < 12) : backT o < 12 := back_lt ⟨o, ho⟩
theorem brT_inj (o r q : Nat) (ho : o < 12) (hr : r < 64) (hq : q < 64) (h : brT o r = brT o q) : r = q := by
  have h1 := brT_comp o (backT o) r ho (backT_lt o ho) hr
  have h2 := brT_comp o (backT o) q ho (backT_lt o ho) hq
  rw [(then_back ⟨o, ho⟩).1] at h1 h2
  have h3 := br_id ⟨r, hr⟩
  have h4 := br_id ⟨q, hq⟩
  simp only at h3 h4
  rw [h] at h1
  omega
theorem brT_on (o r : Nat) (ho : o < 12) (hr : r < 64) : ∃ q, q < 64 ∧ brT o q = r := by
  refine ⟨brT (backT o) r, brT_lt _ _ (backT_lt o ho) hr, ?_⟩
  rw [brT_comp (backT o) o r (backT_lt o ho) ho hr, (then_back ⟨o, ho⟩).2]
  exact br_id ⟨r, hr⟩

/-- a ring that an operator makes another one of -/
def badAt (b s : Int) (o r : Nat) : Bool := (nxB b r != nxB b (brT o r)) || (nxB s r != nxB s (brT o r))
theorem next_f (b0 b1 s0 s1 : Int) (live : Bool) (r : Nat) (hr : r < 64) : XNext.f 1 b0 b1 s0 s1 0 live (r : Int) = some (nxB (if live = true then s0 else b0) (r : Int)) := by
  unfold XNext.f
  rw [if_neg (by omega)]
  simp
theorem wN (r : Nat) (hr : r < 1000) : wrap64 ((r : Int) + 1) = ((r + 1 : Nat) : Int) := by rw [w64i _ (by omega) (by omega)]; simp

variable (b0 b1 s0 s1 : Int)
theorem keeps_l0 (k p : Nat) (hp : p < 12) : ∀ n r : Nat, r + n = 64 → ∃ v, iso_Keeps.l0 (k + n + 1) (p : Int) (r : Int) 1 b0 b1 s0 s1 = some v ∧ (v = true ↔ ∀ q, r ≤ q → q < 64 → badAt b0 s0 p q = false) := by
  intro n
  induction n with
  | zero =>
    intro r hr
    refine ⟨true, ?_, by simp; intro q h1 h2; omega⟩
    rw [iso_Keeps.l0, if_neg (by omega)]
  | succ n ih =>
    intro r hr
    have hr64 : r < 64 := by omega
    obtain ⟨v, hv, hiff⟩ := ih (r + 1) (by omega)
    have hb := brT_lt p r hp hr64
    have n0 := next_f b0 b1 s0 s1 false r hr64
    have n1 := next_f b0 b1 s0 s1 true r hr64
    have m0 := next_f b0 b1 s0 s1 false (brT p r) hb
    have m1 := next_f b0 b1 s0 s1 true (brT p r) hb
    simp only [↓reduceIte, Bool.false_eq_true] at n0 n1 m0 m1
    have hbad : badAt b0 s0 p r = ((nxB b0 r != nxB b0 (brT p r)) || (nxB s0 r != nxB s0 (brT p r))) := rfl
    rw [show k + (n + 1) + 1 = (k + n + 1) + 1 by omega, iso_Keeps.l0, if_pos (by omega), br_f p r hp hr64]
    simp only [Option.bind_some, n0, m0, n1, m1, wN r (by omega)]
    cases h0 : (nxB b0 (r : Int) != nxB b0 (brT p r : Int)) with
    | true => exact ⟨false, by simp, by simp; exact ⟨r, Nat.le_refl _, hr64, by rw [hbad, h0]; rfl⟩⟩
    | false =>
      cases h1 : (nxB s0 (r : Int) != nxB s0 (brT p r : Int)) with
      | true => exact ⟨false, by simp, by simp; exact ⟨r, Nat.le_refl _, hr64, by rw [hbad, h0, h1]; rfl⟩⟩
      | false =>
        refine ⟨v, by simpa using hv, hiff.trans ⟨fun h q h2 h3 => ?_, fun h q h2 h3 => h q (by omega) h3⟩⟩
        rcases Nat.eq_or_lt_of_le h2 with rfl | h4
        · rw [hbad, h0, h1]; rfl
        · exact h q h4 h3
theorem good_f (p : Nat) (hp : p < 12) : axis_Operator_Good.f (p : Int) = some true := by
  unfold axis_Operator_Good.f
  simp
  omega
theorem keeps_hex (k p : Nat) (hp : p < 12) (hc : checkT 1 b0 b1 s0 s1 = none) : ∃ v, iso_Keeps.f (k + 66) 1 b0 b1 s0 s1 (p : Int) = some v ∧ (v = true ↔ ∀ q, q < 64 → badAt b0 s0 p q = false) := by
  obtain ⟨v, h1, h2⟩ := keeps_l0 b0 b1 s0 s1 k p hp 64 0 (by omega)
  refine ⟨v, ?_, h2.trans ⟨fun h q => h q (Nat.zero_le _), fun h q _ => h q⟩⟩
  unfold iso_Keeps.f
  rw [show XTCheck.f 1 b0 b1 s0 s1 = some none by unfold XTCheck.f; rw [hc]]
  simp only [Option.bind_some, Option.isNone_none, ↓reduceIte, good_f p hp]
  rw [show k + 66 = (k + 65) + 1 from rfl, iso_Keeps.j0]
  simpa using h1
end Go.Proofs.YtaeenefdbahfoaaDoor
