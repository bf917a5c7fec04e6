/- Parts of the proof (FlatSteps), merged out of our texts by wip/tools/pack.py: PSteps, WGuard, XClasses, XLetter, HTab, Hhoneycomblaw08awake, PAwake8, Hhoneycombref05bit, Hhoneycombref05Next, PNext5. -/
import Derived.Test.YtaeenefdbahfoaaDoorKFlatSteps4
import Derived.Test.YtaeenefdbahfoaaDoorKFlatSteps5
import Derived.Test.YtaeenefdbahfoaaDoorKFlatSteps6
import Derived.Test.YtaeenefdbahfoaaDoorKFlatSteps0
import Derived.Test.YtaeenefdbahfoaaDoorKFlatSteps1
import Derived.Laws.RangeString
import Derived.Test.YtaeenefdbahfoaaDoorKFlatSteps3
namespace Go.Proofs.YtaeenefdbahfoaaDoor
set_option linter.unusedSimpArgs false
set_option linter.unusedVariables false
open Go.RowKit Go.Proofs.YtaeenefdbahfoaaDoorW.PrintWords Go.Proofs.YtaeenefdbahfoaaDoorW.PrintLast Go.Proofs.YtaeenefdbahfoaaDoorW.PrintMore
open H
open Go.RowKit
theorem u64N (n : Nat) (h : n < 18446744073709551616) : IntKind.u64.wrap (n : Int) = n := by
  have : IntKind.u64.wrap (n : Int) = (n : Int) % 18446744073709551616 := by simp [IntKind.wrap, IntKind.signed, IntKind.bits]
  rw [this]
  omega
theorem ofIntN (n : Nat) (h : n < 18446744073709551616) : (BitVec.ofInt 64 (n : Int)).toNat = n := by
  rw [BitVec.toNat_ofInt]
  omega
theorem andN (a c : Nat) (ha : a < 18446744073709551616) (hc : c < 18446744073709551616) : Go.bits .and .u64 (a : Int) (c : Int) = ((a &&& c : Nat) : Int) := by
  have key : (BitVec.ofInt 64 (a : Int) &&& BitVec.ofInt 64 (c : Int)).toNat = a &&& c := by rw [BitVec.toNat_and, ofIntN a ha, ofIntN c hc]
  show IntKind.u64.wrap ((BitVec.ofInt 64 (a : Int) &&& BitVec.ofInt 64 (c : Int)).toNat : Nat) = _
  rw [key]
  exact u64N _ (Nat.lt_of_le_of_lt Nat.and_le_left ha)
theorem orN (a c : Nat) (ha : a < 18446744073709551616) (hc : c < 18446744073709551616) : Go.bits .or .u64 (a : Int) (c : Int) = ((a ||| c : Nat) : Int) := by
  have key : (BitVec.ofInt 64 (a : Int) ||| BitVec.ofInt 64 (c : Int)).toNat = a ||| c := by rw [BitVec.toNat_or, ofIntN a ha, ofIntN c hc]
  show IntKind.u64.wrap ((BitVec.ofInt 64 (a : Int) ||| BitVec.ofInt 64 (c : Int)).toNat : Nat) = _
  rw [key]
  exact u64N _ (Nat.or_lt_two_pow (n := 64) ha hc)
theorem leO_upG {α : Type} {g : Nat → Option α} (h : ∀ k, LeO (g k) (g (k + 1))) {n : Nat} {r : α} (hn : g n = some r) : ∀ m, g (n + m) = some r
  | 0 => hn
  | m + 1 => h (n + m) r (leO_upG h hn m)
theorem leO_geG {α : Type} {g : Nat → Option α} (h : ∀ k, LeO (g k) (g (k + 1))) {n : Nat} {r : α} (hn : g n = some r) (K : Nat) (hK : n ≤ K) : g K = some r := by
  obtain ⟨m, rfl⟩ : ∃ m, K = n + m := ⟨K - n, by omega⟩
  exact leO_upG h hn m
theorem badN (B S m1 m2 o : Nat) (hB : B < 18446744073709551616) (hS : S < 18446744073709551616) (ho : o < 18446744073709551616) (h1 : m1 &&& (o ||| 1) = 0) (h2 : m2 &&& o = 0) : badH ((B &&& m1 : Nat) : Int) ((S &&& m2 : Nat) : Int) (o : Int) = false := by
  unfold badH
  have e := orN o 1 ho (by decide)
  rw [show ((1 : Nat) : Int) = 1 from rfl] at e
  rw [e, andN _ _ (Nat.lt_of_le_of_lt Nat.and_le_left hB) (Nat.or_lt_two_pow (n := 64) ho (by decide)), andN _ _ (Nat.lt_of_le_of_lt Nat.and_le_left hS) ho, Nat.and_assoc, Nat.and_assoc, h1, h2]
  simp
theorem badZ (o : Int) (ho : o = 18446744073709551615) : badH 0 0 o = false := by subst ho; decide +kernel
theorem even_and (B m : Nat) (h : m % 2 = 0) : (B &&& m) % 2 = 0 := by
  have := Nat.and_mod_two_pow (a := B) (b := m) (n := 1)
  simp only [Nat.pow_one] at this
  rw [this, h, Nat.and_zero]
/-- a table as the law makes it: the numbers, and that it may be -/
def Tb (L : Int) (b0 b1 s0 s1 : Nat) : Prop := (1 ≤ L ∧ L ≤ 3) ∧ checkT L b0 b1 s0 s1 = none ∧ b0 % 2 = 0 ∧ b1 % 2 = 0 ∧ b0 < 18446744073709551616 ∧ b1 < 18446744073709551616 ∧ s0 < 18446744073709551616 ∧ s1 < 18446744073709551616 ∧ (L = 1 → b1 = 0 ∧ s1 = 0)
theorem some_rule (l : Int) (B B1 S S1 : Nat) (hB : B < 18446744073709551616) (hB1 : B1 < 18446744073709551616) (hS : S < 18446744073709551616) (hS1 : S1 < 18446744073709551616) :
    ∃ (L : Int) (b0 b1 s0 s1 : Nat), XSome5.f l B B1 S S1 = some (L, (b0 : Int), (b1 : Int), (s0 : Int), (s1 : Int)) ∧ Tb L b0 b1 s0 s1 := by
  have hL : latT l = 1 ∨ latT l = 2 ∨ latT l = 3 := by unfold latT; omega
  have lt := fun (a b : Nat) (h : a < 18446744073709551616) => Nat.lt_of_le_of_lt (Nat.and_le_left (n := a) (m := b)) h
  unfold XSome5.f
  rcases hL with hL | hL | hL <;> rw [hL]
  · have e1 : andM B (bornT 1) = ((B &&& 18446744073709551614 : Nat) : Int) := andN B 18446744073709551614 hB (by decide)
    have e2 : andM S (maskT 1) = ((S &&& 18446744073709551615 : Nat) : Int) := andN S 18446744073709551615 hS (by decide)
    have h0' : badH ((B &&& 18446744073709551614 : Nat) : Int) ((S &&& 18446744073709551615 : Nat) : Int) (restT 1) = false := badN B S 18446744073709551614 18446744073709551615 0 hB hS (by decide) (by decide +kernel) (by decide +kernel)
    refine ⟨1, B &&& 18446744073709551614, 0, S &&& 18446744073709551615, 0, ?_, ⟨by decide, by decide⟩, ?_, even_and _ _ rfl, rfl, lt _ _ hB, by decide, lt _ _ hS, by decide, fun _ => ⟨rfl, rfl⟩⟩
    · rw [e1, e2, if_pos rfl, if_pos rfl]; rfl
    · unfold checkT
      rw [if_pos (by decide), if_neg (by rw [h0', show ((0 : Nat) : Int) = 0 from rfl, badZ (outT 1) rfl]; decide)]
  · have e1 : andM B (bornT 2) = ((B &&& 14 : Nat) : Int) := andN B 14 hB (by decide)
    have e1' : andM B1 (bornT 2) = ((B1 &&& 14 : Nat) : Int) := andN B1 14 hB1 (by decide)
    have e2 : andM S (maskT 2) = ((S &&& 15 : Nat) : Int) := andN S 15 hS (by decide)
    have e2' : andM S1 (maskT 2) = ((S1 &&& 15 : Nat) : Int) := andN S1 15 hS1 (by decide)
    have h0 : badH ((B &&& 14 : Nat) : Int) ((S &&& 15 : Nat) : Int) (restT 2) = false := badN B S 14 15 18446744073709551600 hB hS (by decide) (by decide +kernel) (by decide +kernel)
    have h0' : badH ((B1 &&& 14 : Nat) : Int) ((S1 &&& 15 : Nat) : Int) (outT 2) = false := badN B1 S1 14 15 18446744073709551600 hB1 hS1 (by decide) (by decide +kernel) (by decide +kernel)
    refine ⟨2, B &&& 14, B1 &&& 14, S &&& 15, S1 &&& 15, ?_, ⟨by decide, by decide⟩, ?_, even_and _ _ rfl, even_and _ _ rfl, lt _ _ hB, lt _ _ hB1, lt _ _ hS, lt _ _ hS1, fun h => absurd h (by decide)⟩
    · rw [if_neg (by decide), if_neg (by decide), e1, e1', e2, e2']
    · unfold checkT
      rw [if_pos (by decide), if_neg (by rw [h0, h0']; decide)]
  · have e1 : andM B (bornT 3) = ((B &&& 8190 : Nat) : Int) := andN B 8190 hB (by decide)
    have e1' : andM B1 (bornT 3) = ((B1 &&& 8190 : Nat) : Int) := andN B1 8190 hB1 (by decide)
    have e2 : andM S (maskT 3) = ((S &&& 8191 : Nat) : Int) := andN S 8191 hS (by decide)
    have e2' : andM S1 (maskT 3) = ((S1 &&& 8191 : Nat) : Int) := andN S1 8191 hS1 (by decide)
    have h0 : badH ((B &&& 8190 : Nat) : Int) ((S &&& 8191 : Nat) : Int) (restT 3) = false := badN B S 8190 8191 18446744073709543424 hB hS (by decide) (by decide +kernel) (by decide +kernel)
    have h0' : badH ((B1 &&& 8190 : Nat) : Int) ((S1 &&& 8191 : Nat) : Int) (outT 3) = false := badN B1 S1 8190 8191 18446744073709543424 hB1 hS1 (by decide) (by decide +kernel) (by decide +kernel)
    refine ⟨3, B &&& 8190, B1 &&& 8190, S &&& 8191, S1 &&& 8191, ?_, ⟨by decide, by decide⟩, ?_, even_and _ _ rfl, even_and _ _ rfl, lt _ _ hB, lt _ _ hB1, lt _ _ hS, lt _ _ hS1, fun h => absurd h (by decide)⟩
    · rw [if_neg (by decide), if_neg (by decide), e1, e1', e2, e2']
    · unfold checkT
      rw [if_pos (by decide), if_neg (by rw [h0, h0']; decide)]
theorem nxB_zero (b : Nat) (hb : b < 18446744073709551616) (h : b % 2 = 0) : nxB (b : Int) 0 = false := by
  unfold nxB
  have e : (b : Int) / 2 ^ (0 : Int).toNat = (b : Int) := by simp
  have := andN b 1 hb (by decide)
  rw [e]
  rw [show ((1 : Nat) : Int) = 1 from rfl] at this
  rw [this, Nat.and_one_is_mod, h]
  rfl
theorem rule_zero {L : Int} {b0 b1 s0 s1 : Nat} (h : Tb L b0 b1 s0 s1) : ∀ x, nxtV b0 b1 s0 s1 x false 0 = false := by
  intro x
  obtain ⟨_, _, h0, h1, l0, l1, _⟩ := h
  unfold nxtV
  split
  · rfl
  · rw [if_neg (by decide)]
    split
    · exact nxB_zero b0 l0 h0
    · exact nxB_zero b1 l1 h1
def Bx (l R : Int) (s : List CL) : Prop := ∀ c ∈ s, hOK l c.f1 ∧ (-R ≤ c.f0.f0 ∧ c.f0.f0 ≤ R) ∧ (-R ≤ c.f0.f1 ∧ c.f0.f1 ≤ R)
theorem Bx.half {l R : Int} {s : List CL} (h : Bx l R s) : ∀ c ∈ s, hOK l c.f1 := fun c hc => (h c hc).1
theorem Bx.mono {l R R' : Int} {s : List CL} (h : Bx l R s) (hR : R ≤ R') : Bx l R' s := fun c hc => by
  obtain ⟨h1, h2, h3⟩ := h c hc
  exact ⟨h1, by omega, by omega⟩
theorem Bx.chk {l R : Int} {s : List CL} (hl : 1 ≤ l ∧ l ≤ 3) (hR : R ≤ 1000000000) (h : Bx l R s) : ∀ c ∈ s, checkR l c.f0.f0 c.f0.f1 c.f1 = none := fun c hc => by
  obtain ⟨h1, h2, h3⟩ := h c hc
  unfold checkR
  rw [if_pos hl, if_neg, if_pos (by unfold goodP; omega)]
  unfold hOK at h1
  by_cases e : l = 1
  · rw [if_pos e]; have := h1.2 e; omega
  · rw [if_neg e]; omega
theorem Bx.ok {l R : Int} {s : List CL} (hl : 1 ≤ l ∧ l ≤ 3) (hR : R ≤ 1000000000) (h : Bx l R s) : (s.all fun c => okC l c) = true := by
  rw [List.all_eq_true]
  intro c hc
  unfold okC
  rw [Bool.and_eq_true]
  refine ⟨by rw [h.chk hl hR c hc]; rfl, ?_⟩
  rw [List.all_eq_true]
  intro d hd
  obtain ⟨h1, h2, h3⟩ := h c hc
  have := bes_near l c d hl h1 hd
  exact decide_eq_true (by unfold goodP; omega)
theorem Bx.next {l R : Int} {s : List CL} {nx : Rul} (hl : 1 ≤ l ∧ l ≤ 3) (h0 : ∀ x, nx x false 0 = false) (hs : Srt s) (h : Bx l R s) : Bx l (R + 1) (nextL nx l s) := fun c hc => by
  have hh := ((next_mem nx l hl h0 s (srt_nodup hs) h.half c).1 hc).1
  obtain ⟨d, hd, h1, h2, h3, h4⟩ := next_near nx l hl h0 s (srt_nodup hs) h.half c hc
  obtain ⟨_, h5, h6⟩ := h d hd
  exact ⟨hh, by omega, by omega⟩
theorem next_len (nx : Rul) (l : Int) (s : List CL) : (nextL nx l s).length ≤ 13 * s.length := by
  unfold nextL nextRaw
  refine Nat.le_trans (ofL_le _) ?_
  rw [List.length_append]
  have h1 := keep_le nx (arL l s) s
  have h2 := bornL_le nx (keepL nx (arL l s) s).1
  have h3 := arL_le l s
  omega
theorem step_f {L : Int} {b0 b1 s0 s1 : Nat} (ht : Tb L b0 b1 s0 s1) (s : List CL) (hs : Srt s) (R : Int) (hR : R ≤ 1000000000) (hb : Bx L R s) (hn : s.length < 1073741824) :
    XStep.f L b0 b1 s0 s1 s = some (nextL (nxtV b0 b1 s0 s1) L s, none) := by
  unfold XStep.f
  rw [if_pos ⟨hn, ht.2.1, hs, hb.ok ht.1 hR⟩]
theorem XOf_srt {s : List CL} (hs : Srt s) (hn : s.length < 1073741824) : XOf.f s = some s := by
  unfold XOf.f
  rw [if_pos (by omega), ofL_of_srt hs]
theorem steps_l0 {L : Int} {b0 b1 s0 s1 : Nat} (ht : Tb L b0 b1 s0 s1) (n : Nat) (hn9 : n < 1000000000) : ∀ (d k i : Nat) (s : List CL) (R : Int), i + d = n → d < k → Srt s → R + d ≤ 1000000000 → Bx L R s → s.length * 13 ^ d < 1073741824 →
    flat_Steps.l0 k s n i L b0 b1 s0 s1 = some (stepsL (nxtV b0 b1 s0 s1) L d s, none) := by
  intro d
  induction d with
  | zero =>
    intro k i s R hi hk hs hR hb hlen
    obtain ⟨k, rfl⟩ : ∃ m, k = m + 1 := ⟨k - 1, by omega⟩
    simp only [flat_Steps.l0]
    rw [if_neg (by omega), XOf_srt hs (by simpa using hlen)]
    rfl
  | succ d ih =>
    intro k i s R hi hk hs hR hb hlen
    obtain ⟨k, rfl⟩ : ∃ m, k = m + 1 := ⟨k - 1, by omega⟩
    have hlen2 : 13 * s.length * 13 ^ d < 1073741824 := by
      have : s.length * 13 ^ (d + 1) = 13 * s.length * 13 ^ d := by rw [Nat.pow_succ, Nat.mul_comm 13 s.length, Nat.mul_assoc, Nat.mul_comm 13]
      omega
    have h1 : 1 ≤ 13 ^ d := Nat.one_le_pow _ _ (by decide)
    have hls : s.length < 1073741824 := by
      have : s.length * 1 ≤ 13 * s.length * 13 ^ d := Nat.mul_le_mul (by omega) h1
      omega
    simp only [flat_Steps.l0]
    rw [if_pos (by omega)]
    by_cases he : s = []
    · subst he
      rw [if_pos (by simp), XOf_srt List.Pairwise.nil (by decide), stepsL_nil _ L ht.1 (rule_zero ht)]
      rfl
    · have : 0 < s.length := List.length_pos_iff.2 he
      rw [if_neg (by omega), step_f ht s hs R (by omega) hb hls]
      simp only [Option.bind_some, Option.isNone_none, ↓reduceIte]
      rw [w64i ((i : Int) + 1) (by omega) (by omega)]
      have hx := ih k (i + 1) (nextL (nxtV b0 b1 s0 s1) L s) (R + 1) (by omega) (by omega) (next_srt _ _ _) (by omega) (hb.next ht.1 (rule_zero ht) hs) (by
        have := Nat.mul_le_mul_right (13 ^ d) (next_len (nxtV b0 b1 s0 s1) L s)
        omega)
      simp only [Int.natCast_add, Int.cast_ofNat_Int] at hx
      rw [hx]
      rfl
theorem steps_f {L : Int} {b0 b1 s0 s1 : Nat} (ht : Tb L b0 b1 s0 s1) (n : Nat) (hn9 : n < 1000000000) (K : Nat) (s : List CL) (R : Int) (hK : n < K) (hK2 : s.length + 1 < K) (hs : Srt s) (hR : R + n ≤ 1000000000) (hb : Bx L R s) (hlen : s.length * 13 ^ n < 1073741824) :
    flat_Steps.f K L b0 b1 s0 s1 s n = some (stepsL (nxtV b0 b1 s0 s1) L n s, none) := by
  have h1 : 1 ≤ 13 ^ n := Nat.one_le_pow _ _ (by decide)
  have hls : s.length < 1073741824 := by
    have : s.length * 1 ≤ s.length * 13 ^ n := Nat.mul_le_mul (by omega) h1
    omega
  unfold flat_Steps.f
  rw [if_neg (by omega), show XTCheck.f L b0 b1 s0 s1 = some none by unfold XTCheck.f; rw [ht.2.1]]
  simp only [Option.bind_some, Option.isNone_none, ↓reduceIte]
  rw [chk_f K s L ht.1.1 ht.1.2 hs (hb.chk ht.1 (by omega)) (by omega) hK2]
  simp only [Option.bind_some, Option.isNone_none, ↓reduceIte]
  have := steps_l0 ht n hn9 n K 0 s R (by omega) hK hs hR hb hlen
  exact this
def fewG (r : RC) : RC := ⟨Int.tmod r.f0 7, Int.tmod r.f1 7, r.f2⟩
def someG (l : Int) (r : RC) : CL := ⟨⟨Int.tmod r.f0 100, Int.tmod r.f1 100⟩, if l = 1 then 0 else r.f2 % 2⟩
theorem rdRC (l : List RC) (j : Nat) (hj : j < l.length) : rd_T60 l j = l[j] := by simp [rd_T60, hj]
theorem tmod_small (x m : Int) (h1 : -m < x) (h2 : x < m) : Int.tmod x m = x := by
  rcases Int.le_total 0 x with h | h
  · rw [Int.tmod_eq_emod_of_nonneg h, Int.emod_eq_of_lt h h2]
  · obtain ⟨y, rfl⟩ : ∃ y, x = -y := ⟨-x, by omega⟩
    rw [Int.neg_tmod, Int.tmod_eq_emod_of_nonneg (by omega), Int.emod_eq_of_lt (by omega) (by omega)]
theorem some4_l0 (l : Int) (raw : List RC) : ∀ (d k i : Nat) (acc : List CL), i + d = min raw.length 40 → d < k → acc.length ≤ i → honeycomblaw04_Some.l0 k l raw acc i = some (ofL (acc ++ ((raw.take (i + d)).drop i).map (someG l))) := by
  intro d
  induction d with
  | zero =>
    intro k i acc hi hk ha
    obtain ⟨k, rfl⟩ : ∃ m, k = m + 1 := ⟨k - 1, by omega⟩
    have hof : XOf.f acc = some (ofL acc) := by unfold XOf.f; rw [if_pos (by omega)]
    have hd : ((raw.take (i + 0)).drop i).map (someG l) = [] := by rw [List.drop_eq_nil_of_le (by rw [List.length_take]; omega)]; rfl
    rw [hd, List.append_nil]
    simp only [honeycomblaw04_Some.l0, hof, Option.bind_some]
    by_cases h : i < raw.length
    · rw [if_pos (by omega), if_neg (by omega)]
    · rw [if_neg (by omega)]
  | succ d ih =>
    intro k i acc hi hk ha
    obtain ⟨k, rfl⟩ : ∃ m, k = m + 1 := ⟨k - 1, by omega⟩
    have h1 : i < raw.length := by omega
    simp only [honeycomblaw04_Some.l0]
    rw [if_pos (by omega), if_pos (by omega), if_pos (by omega), rdRC raw i h1]
    unfold XSome3.f
    simp only [Option.bind_some]
    rw [if_pos (by omega), w64i ((i : Int) + 1) (by omega) (by omega)]
    have := ih k (i + 1) (acc ++ [someG l raw[i]]) (by omega) (by omega) (by rw [List.length_append]; simp; omega)
    simp only [Int.natCast_add, Int.cast_ofNat_Int] at this
    refine this.trans ?_
    have hd : (raw.take (i + (d + 1))).drop i = raw[i] :: (raw.take (i + 1 + d)).drop (i + 1) := by
      have hl : i < (raw.take (i + (d + 1))).length := by rw [List.length_take]; omega
      rw [List.drop_eq_getElem_cons hl, List.getElem_take]
      congr 3
      omega
    rw [hd, List.map_cons, List.append_assoc, List.singleton_append]
theorem some4_f (K : Nat) (l : Int) (raw : List RC) (hK : 41 ≤ K) : honeycomblaw04_Some.f K l raw = some (ofL ((raw.take 40).map (someG l))) := by
  unfold honeycomblaw04_Some.f
  have := some4_l0 l raw (min raw.length 40) K 0 [] (by omega) (by omega) (by simp)
  refine this.trans ?_
  rw [List.nil_append, List.drop_zero, Nat.zero_add]
  congr 3
  rw [List.take_eq_take_iff]
  omega
theorem few_l0 (l : Int) (raw : List RC) : ∀ (d k i : Nat) (acc : List RC), i + d = min raw.length 16 → d + 42 ≤ k → acc.length ≤ i → honeycomblaw08_Few.l0 k l raw acc i = some (ofL (((acc ++ ((raw.take (i + d)).drop i).map fewG).take 40).map (someG l))) := by
  intro d
  induction d with
  | zero =>
    intro k i acc hi hk ha
    obtain ⟨k, rfl⟩ : ∃ m, k = m + 1 := ⟨k - 1, by omega⟩
    have hd : ((raw.take (i + 0)).drop i).map fewG = [] := by rw [List.drop_eq_nil_of_le (by rw [List.length_take]; omega)]; rfl
    rw [hd, List.append_nil]
    simp only [honeycomblaw08_Few.l0, some4_f k l acc (by omega), Option.bind_some]
    by_cases h : i < raw.length
    · rw [if_pos (by omega), if_neg (by omega)]
    · rw [if_neg (by omega)]
  | succ d ih =>
    intro k i acc hi hk ha
    obtain ⟨k, rfl⟩ : ∃ m, k = m + 1 := ⟨k - 1, by omega⟩
    have h1 : i < raw.length := by omega
    simp only [honeycomblaw08_Few.l0]
    rw [if_pos (by omega), if_pos (by omega), if_pos (by omega), rdRC raw i h1, if_pos (by omega), w64i ((i : Int) + 1) (by omega) (by omega)]
    have := ih k (i + 1) (acc ++ [fewG raw[i]]) (by omega) (by omega) (by rw [List.length_append]; simp; omega)
    simp only [Int.natCast_add, Int.cast_ofNat_Int] at this
    refine this.trans ?_
    have hd : (raw.take (i + (d + 1))).drop i = raw[i] :: (raw.take (i + 1 + d)).drop (i + 1) := by
      have hl : i < (raw.take (i + (d + 1))).length := by rw [List.length_take]; omega
      rw [List.drop_eq_getElem_cons hl, List.getElem_take]
      congr 3
      omega
    rw [hd, List.map_cons, List.append_assoc, List.singleton_append]
/-- few cells near the origin -/
theorem few_f (K : Nat) (l : Int) (raw : List RC) (hK : 60 ≤ K) : ∃ s, honeycomblaw08_Few.f K l raw = some s ∧ Srt s ∧ s.length ≤ 16 ∧ Bx l 6 s := by
  have := few_l0 l raw (min raw.length 16) K 0 [] (by omega) (by omega) (by simp)
  refine ⟨_, this, ofL_srt _, ?_, ?_⟩
  · refine Nat.le_trans (ofL_le _) ?_
    simp [List.length_take]
    omega
  · intro c hc
    rw [ofL_mem] at hc
    obtain ⟨r, hr, rfl⟩ := List.mem_map.1 hc
    have hr := List.mem_of_mem_take hr
    rw [List.nil_append] at hr
    obtain ⟨q, _, rfl⟩ := List.mem_map.1 hr
    have t1 := tmod_range q.f0 7 (by omega)
    have t2 := tmod_range q.f1 7 (by omega)
    have u1 : Int.tmod (Int.tmod q.f0 7) 100 = Int.tmod q.f0 7 := tmod_small _ 100 (by omega) (by omega)
    have u2 : Int.tmod (Int.tmod q.f1 7) 100 = Int.tmod q.f1 7 := tmod_small _ 100 (by omega) (by omega)
    simp only [someG, fewG, u1, u2]
    refine ⟨?_, by omega, by omega⟩
    unfold hOK
    by_cases e : l = 1
    · rw [if_pos e]; exact ⟨.inl rfl, fun _ => rfl⟩
    · rw [if_neg e]; exact ⟨by omega, fun h => absurd h e⟩
end Go.Proofs.YtaeenefdbahfoaaDoor
namespace Go.Proofs.YtaeenefdbahfoaaDoorW.PrintWords
set_option linter.unusedSimpArgs false
set_option linter.unusedVariables false
open Go.RowKit
section
variable {P : Program} {ops : Array Oper} {rest : List Oper} {o : Oper} {a : Act} {Q : Exit → Act → World → Prop} {W : World}
/-- The gate takes the guard off (hw: 'by rfl', 'by kernel_rfl': the guard's slot holds what is wanted). -/
theorem gate_guard (hw : Region.wanted o (yielded ops a.tmps) = true) (h : wpList P ops Q ({ o with guard := none } :: rest) a W) : wpList P ops Q (o :: rest) a W := by
  have h1 : Region.wanted { o with guard := none } (yielded ops a.tmps) = true := rfl
  unfold wpList at h ⊢
  rw [if_pos h1] at h
  rw [if_pos hw]
  exact h
end
end Go.Proofs.YtaeenefdbahfoaaDoorW.PrintWords
namespace Go.Proofs.YtaeenefdbahfoaaDoor
open Go.RowKit Go.Proofs.YtaeenefdbahfoaaDoorW.PrintWords Go.Proofs.YtaeenefdbahfoaaDoorW.PrintLast Go.Proofs.YtaeenefdbahfoaaDoorW.PrintMore
open H
open Go.RowKit
set_option linter.unusedSimpArgs false
end Go.Proofs.YtaeenefdbahfoaaDoor
namespace Go.Proofs.YtaeenefdbahfoaaDoor
open Go.RowKit Go.Proofs.YtaeenefdbahfoaaDoorW.PrintWords Go.Proofs.YtaeenefdbahfoaaDoorW.PrintLast Go.Proofs.YtaeenefdbahfoaaDoorW.PrintMore
open H
open Go.RowKit
set_option linter.unusedSimpArgs false
def XLetter.f (x : Int) : Option Int := (bits_OnesCount.f (IntKind.u64.wrap x)).bind fun t => (table_turned.f x 1).bind fun u => (bits_OnesCount.f (IntKind.u64.wrap (Go.bits .and .i64 x u))).bind fun b => (table_turned.f x 2).bind fun v =>
  some (if t = 3 ∧ b = 0 then 112 else if t = 3 ∧ b = 1 then 109 else if b > 0 then 111 else if Go.bits .and .i64 x v = 0 then 112 else 109)
set_option maxRecDepth 100000 in
set_option maxHeartbeats 4000000 in
theorem letter_walk (x t u b v : Int) (w : World) (h1 : bits_OnesCount.f (IntKind.u64.wrap x) = some t) (h2 : table_turned.f x 1 = some u) (h3 : bits_OnesCount.f (IntKind.u64.wrap (Go.bits .and .i64 x u)) = some b) (h4 : table_turned.f x 2 = some v) :
    Calls Tryd.prog 109 #[.int .i64 x] w fun e w' => e = .returned (.int .u8 (if t = 3 ∧ b = 0 then 112 else if t = 3 ∧ b = 1 then 109 else if b > 0 then 111 else if Go.bits .and .i64 x v = 0 then 112 else 109)) ∧ Below w.heap.size w w' := by
  have c1 := fun W => bits_OnesCount.calls (IntKind.u64.wrap x) t W h1
  have c2 := fun W => table_turned.calls x 1 u W h2
  have c3 := fun W => bits_OnesCount.calls (IntKind.u64.wrap (Go.bits .and .i64 x u)) b W h3
  have c4 := fun W => table_turned.calls x 2 v W h4
  clear h1 h2 h3 h4
  generalize hy : Go.bits .and .i64 x u = y at c3
  generalize hz : Go.bits .and .i64 x v = z
  have HB0 := Aside0.mk (Below.refl w.heap.size w)
  have key : ∀ r : Int, (if t = 3 ∧ b = 0 then 112 else if t = 3 ∧ b = 1 then 109 else if b > 0 then 111 else if z = 0 then 112 else 109) = r →
      Calls Tryd.prog 109 #[.int .i64 x] w fun e w' => e = .returned (.int .u8 r) ∧ Below w.heap.size w w' := by
    intro r hr
    have HR := Aside0.mk hr
    clear hr
    go_enter Tryd.func109, Tryd.ntmps109
    go_wp2_with fail
    refine (c1 _).mono ?_
    rintro e w1 ⟨rfl, hd1⟩
    have HB1 := Aside0.mk (hd1.below : Below w.heap.size w w1)
    clear hd1
    by_cases ht : t = 3
    · subst ht
      go_wp2_with fail
      refine (c2 _).mono ?_
      rintro e w2 ⟨rfl, hd2⟩
      have HB2 := Aside0.mk (HB1.out.trans ((hd2.below).mono HB1.out.size))
      clear hd2
      go_wp2_with fail
      refine (c3 _).mono ?_
      rintro e w3 ⟨rfl, hd3⟩
      have HB3 := Aside0.mk (HB2.out.trans ((hd3.below).mono HB2.out.size))
      clear hd3
      by_cases hb0 : b = 0
      · subst hb0
        go_wp2
        go_ret
        exact ⟨by rw [← HR.out]; simp, HB3.out⟩
      · have e0 : (b == 0) = false := beq_eq_false_iff_ne.2 hb0
        by_cases hb1 : b = 1
        · subst hb1
          go_wp2
          go_ret
          exact ⟨by rw [← HR.out]; simp, HB3.out⟩
        · have e1 : (b == 1) = false := beq_eq_false_iff_ne.2 hb1
          by_cases hbp : b > 0
          · go_wp2
            go_ret
            exact ⟨by rw [← HR.out]; simp [hb0, hb1, hbp], HB3.out⟩
          · by_cases hz0 : z = 0
            · have ez : (z != 0) = false := by simp [hz0]
              go_wp2_with fail
              refine (c4 _).mono ?_
              rintro e w4 ⟨rfl, hd4⟩
              have HB4 := Aside0.mk (HB3.out.trans ((hd4.below).mono HB3.out.size))
              clear hd4
              go_wp2
              go_ret
              exact ⟨by rw [← HR.out]; simp [hb0, hb1, hbp, hz0], HB4.out⟩
            · have ez : (z != 0) = true := by simp [hz0]
              go_wp2_with fail
              refine (c4 _).mono ?_
              rintro e w4 ⟨rfl, hd4⟩
              have HB4 := Aside0.mk (HB3.out.trans ((hd4.below).mono HB3.out.size))
              clear hd4
              go_wp2
              go_ret
              exact ⟨by rw [← HR.out]; simp [hb0, hb1, hbp, hz0], HB4.out⟩
    · have et : (t == 3) = false := beq_eq_false_iff_ne.2 ht
      go_wp2_with fail
      refine (c2 _).mono ?_
      rintro e w2 ⟨rfl, hd2⟩
      have HB2 := Aside0.mk (HB1.out.trans ((hd2.below).mono HB1.out.size))
      clear hd2
      go_wp2_with fail
      refine (c3 _).mono ?_
      rintro e w3 ⟨rfl, hd3⟩
      have HB3 := Aside0.mk (HB2.out.trans ((hd3.below).mono HB2.out.size))
      clear hd3
      by_cases hbp : b > 0
      · go_wp2
        go_ret
        exact ⟨by rw [← HR.out]; simp [ht, hbp], HB3.out⟩
      · by_cases hz0 : z = 0
        · have ez : (z != 0) = false := by simp [hz0]
          go_wp2_with fail
          refine (c4 _).mono ?_
          rintro e w4 ⟨rfl, hd4⟩
          have HB4 := Aside0.mk (HB3.out.trans ((hd4.below).mono HB3.out.size))
          clear hd4
          go_wp2
          go_ret
          exact ⟨by rw [← HR.out]; simp [ht, hbp, hz0], HB4.out⟩
        · have ez : (z != 0) = true := by simp [hz0]
          go_wp2_with fail
          refine (c4 _).mono ?_
          rintro e w4 ⟨rfl, hd4⟩
          have HB4 := Aside0.mk (HB3.out.trans ((hd4.below).mono HB3.out.size))
          clear hd4
          go_wp2
          go_ret
          exact ⟨by rw [← HR.out]; simp [ht, hbp, hz0], HB4.out⟩
  exact key _ rfl
theorem XLetter.calls (a0 : Int) (r : Int) (w : World) (h : XLetter.f a0 = some r) :
    Calls Tryd.prog 109 #[.int .i64 a0] w fun e w' => e = .returned (.int .u8 r) ∧ Below w.heap.size w w' := by
  unfold XLetter.f at h
  obtain ⟨t, h1, h⟩ := Option.bind_eq_some_iff.1 h
  obtain ⟨u, h2, h⟩ := Option.bind_eq_some_iff.1 h
  obtain ⟨b, h3, h⟩ := Option.bind_eq_some_iff.1 h
  obtain ⟨v, h4, h⟩ := Option.bind_eq_some_iff.1 h
  obtain rfl := Option.some.inj h
  exact letter_walk a0 t u b v w h1 h2 h3 h4
end Go.Proofs.YtaeenefdbahfoaaDoor
namespace Go.Proofs.YtaeenefdbahfoaaDoor.H
open Go.RowKit Go.Proofs.YtaeenefdbahfoaaDoorW.PrintWords Go.Proofs.YtaeenefdbahfoaaDoorW.PrintLast Go.Proofs.YtaeenefdbahfoaaDoorW.PrintMore
attribute [local go_sem] max2_int min2_int max_two min_two max_three min_three max_four min_four   -- for this text's walks alone
set_option linter.unusedVariables false
set_option linter.unusedSimpArgs false
attribute [local go_sem high] eqA104
def table_Ring.j0 : Nat → Int → Int → Bool → Option (Int × Int)
 | 0, _, _, _ => none
 | k + 1, x0, x3, x12 => if x12 = true then ((XLetter.f x0).bind fun t283 => (some (x3, t283))) else (some (x3, 0))
def table_Ring.f (k : Nat) (a0 : Int) : Option (Int × Int) := (bits_OnesCount.f (IntKind.u64.wrap (Go.bits .and .i64 a0 63))).bind fun t281 => (if t281 = 4 then ((XLetter.f (Go.bits .and .i64 (Go.bits .xor .i64 (-1) (Go.bits .and .i64 a0 63)) 63)).bind fun t282 => (some (t281, t282))) else (if t281 = 2 then (table_Ring.j0 k (Go.bits .and .i64 a0 63) t281 (t281 == 2)) else (table_Ring.j0 k (Go.bits .and .i64 a0 63) t281 (t281 == 3))))
theorem table_Ring.mono_l : ∀ k, (∀ y0 y1 y2, LeO (table_Ring.j0 k y0 y1 y2) (table_Ring.j0 (k + 1) y0 y1 y2))
 | 0 => fun _ _ _ r h => by simp [table_Ring.j0] at h
 | k + 1 => by
  have ih0 := table_Ring.mono_l k
  ·
   intro y0 y1 y2
   unfold table_Ring.j0
   repeat' first
   | (with_reducible exact ih0 _ _ _)
   | (with_reducible exact LeO.refl _)
   | (with_reducible exact LeO.none _)
   | (with_reducible refine LeO.ite ?_ ?_)
   | (with_reducible refine LeO.bind ?_ (fun _ => ?_))
   | exact ih0 _ _ _
   | exact LeO.none _
   | refine LeO.ite ?_ ?_
   | refine LeO.bind ?_ (fun _ => ?_)
theorem table_Ring.mono : ∀ a0 k, LeO (table_Ring.f k a0) (table_Ring.f (k + 1) a0) := by
 intro a0 k
 have ih0 := table_Ring.mono_l k
 unfold table_Ring.f
 repeat' first
   | (with_reducible exact ih0 _ _ _)
   | (with_reducible exact LeO.refl _)
   | (with_reducible exact LeO.none _)
   | (with_reducible refine LeO.ite ?_ ?_)
   | (with_reducible refine LeO.bind ?_ (fun _ => ?_))
   | exact ih0 _ _ _
   | exact LeO.none _
   | refine LeO.ite ?_ ?_
   | refine LeO.bind ?_ (fun _ => ?_)
set_option maxHeartbeats 8000000 in
set_option maxRecDepth 100000 in
theorem table_Ring.calls (k : Nat) (a0 : Int) (r1 : Int) (r2 : Int) (w : World) (h : table_Ring.f k a0 = some (r1, r2)) :
  Calls Tryd.prog 94 #[.int .i64 a0] w fun e w' => e = .returned (.agg #[.int .i64 r1, .int .u8 r2]) ∧ Below w.heap.size w w' := by
 have hu104 := Tryd.underlying104
 have HB := Aside0.mk (Below.refl w.heap.size w)
 have H : ((bits_OnesCount.f (IntKind.u64.wrap (Go.bits .and .i64 a0 63))).bind fun t281 => (if t281 = 4 then ((XLetter.f (Go.bits .and .i64 (Go.bits .xor .i64 (-1) (Go.bits .and .i64 a0 63)) 63)).bind fun t282 => (some (t281, t282))) else (if t281 = 2 then (table_Ring.j0 k (Go.bits .and .i64 a0 63) t281 (t281 == 2)) else (table_Ring.j0 k (Go.bits .and .i64 a0 63) t281 (t281 == 3))))) = some (r1, r2) := h
 clear h
 replace H := Option.bind_eq_some_iff.mp H
 obtain ⟨t281, A20, H⟩ := H
 replace H : (if t281 = 4 then ((XLetter.f (Go.bits .and .i64 (Go.bits .xor .i64 (-1) (Go.bits .and .i64 a0 63)) 63)).bind fun t282 => (some (t281, t282))) else (if t281 = 2 then (table_Ring.j0 k (Go.bits .and .i64 a0 63) t281 (t281 == 2)) else (table_Ring.j0 k (Go.bits .and .i64 a0 63) t281 (t281 == 3)))) = some (r1, r2) := H
 have A2 := Aside0.mk A20
 clear A20
 by_cases c3 : t281 = 4
 ·
  rw [if_pos c3] at H
  have c3b0 : (t281 == 4) = true := beq_iff_eq.mpr c3
  have c3b1 : (t281 != 4) = false := bne_eq_false_iff_eq.mpr c3
  clear c3
  replace H := Option.bind_eq_some_iff.mp H
  obtain ⟨t282, A40, H⟩ := H
  replace H : (some (t281, t282)) = some (r1, r2) := H
  have A4 := Aside0.mk A40
  clear A40
  simp only [Option.some.injEq, Prod.mk.injEq] at H
  obtain ⟨rfl, rfl⟩ := H
  go_enter Tryd.func94, Tryd.ntmps94
  go_wp2_with (first | ((with_reducible refine gate_dst (N := 2) rfl ?_); refine box_event ?hg (N := 2) ?hd (cs := #[.int .i64 0, .int .u8 0]) (t := 104) ?hr ?_; (case hd => rfl); (case hg => rfl); (case hr => first | (go_simp; done) | (go_simp; rfl)); intro gb280 hg w5 hbox hb; have n0_ := Aside0.mk (below_step (by repeat (first | (with_reducible first | exact HB.out | apply ba_ | apply bn_ | apply bd_) | exact HB.out)) hb); have n1_ := Aside0.mk (hbox); have n2_ := Aside0.mk ((by rw [hg]; exact (below_size (by repeat (first | (with_reducible first | exact HB.out | apply ba_ | apply bn_ | apply bd_) | exact HB.out))) : w.heap.size ≤ gb280)); have n3_ := Aside0.mk ((by rw [hg]; exact (below_size (by repeat (first | (with_reducible first | exact HB.out | apply ba_ | apply bn_ | apply bd_) | exact HB.out))) : w.heap.size ≤ gb280)); clear HB; have HB := n0_; have BK280 := n1_; have GW280 := n2_; have GE280 := n3_; clear n0_ n1_ n2_ n3_; clear hb hbox hg) | ((with_reducible refine gate_callee (f := 108) rfl ?_); refine goesL_ (some 8) rfl rfl Tryd.func108 (by kernel_rfl) rfl #[.int .u64 (IntKind.u64.wrap (Go.bits .and .i64 a0 63))] rfl (by (try simp only [List.map_toArray, List.map_cons, List.map_nil]); first | done | rfl | (simp only [List.length_drop, List.length_take]; rfl)) ?_; (with_reducible refine (bits_OnesCount.calls (IntKind.u64.wrap (Go.bits .and .i64 a0 63)) t281 _ A2.out).mono ?_); rintro e w' ⟨rfl, ⟨nd, rfl⟩⟩; refine ⟨_, rfl, ?_⟩; (try (rw [drewN_self w5]; generalize hq_ : World.drewN w5 _ = w5; have n0_ : Aside0 (w5.heap[gb280]? = some (.cells #[.int .i64 0, .int .u8 0] 104 (0, 0))) := ⟨by rw [← hq_]; exact (by (with_reducible repeat (first | apply bN_ | apply bD_ | apply bA_)); exact BK280.out)⟩; have n1_ : Aside0 (Below w.heap.size w w5) := ⟨by rw [← hq_]; exact (by repeat (first | (with_reducible first | exact HB.out | apply ba_ | apply bn_ | apply bd_ | refine below_set ?_ GE280.out) | exact HB.out))⟩; clear BK280 HB hq_; have BK280 := n0_; have HB := n1_; clear n0_ n1_))) | ((with_reducible refine gate_callee (f := 109) rfl ?_); refine goesL_ (some 20) rfl rfl Tryd.func109 (by kernel_rfl) rfl #[.int .i64 (Go.bits .and .i64 (Go.bits .xor .i64 (-1) (Go.bits .and .i64 a0 63)) 63)] rfl (by (try simp only [List.map_toArray, List.map_cons, List.map_nil]); first | done | rfl | (simp only [List.length_drop, List.length_take]; rfl)) ?_; (with_reducible refine (XLetter.calls (Go.bits .and .i64 (Go.bits .xor .i64 (-1) (Go.bits .and .i64 a0 63)) 63) t282 _ A4.out).mono ?_); rintro e w6 ⟨rfl, hb⟩; refine ⟨_, rfl, ?_⟩; have n0_ := Aside0.mk (blk_below (g := gb280) (o := .cells #[.int .i64 0, .int .u8 0] 104 (0, 0)) (by (with_reducible repeat (first | apply bN_ | apply bD_ | apply bA_)); exact BK280.out) hb); have n1_ := Aside0.mk (below_step (by repeat (first | (with_reducible first | exact HB.out | apply ba_ | apply bn_ | apply bd_ | refine below_set ?_ GE280.out) | exact HB.out)) hb); clear BK280; clear HB; have BK280 := n0_; have HB := n1_; clear n0_ n1_; (try clear hb); (try clear hb2); (try clear hk); (try clear hi); have hcz7_0 : w6.cell? ⟨gb280, 0, none⟩ = some (.int .i64 0) := (blk_cell BK280.out 0).trans rfl; have hcz7_1 : w6.cell? ⟨gb280, 1, none⟩ = some (.int .u8 0) := (blk_cell BK280.out 1).trans rfl; have hfz7_0 := blk_frozen BK280.out 0; have hfz7_1 := blk_frozen BK280.out 1))
  refine bodyPost_ret (results_cell_row rfl _ _ gb280 104 #[.int .i64 t281, .int .u8 t282] (0, 0) _ rfl (by (with_reducible repeat (first | apply bN_ | apply bD_ | apply bA_)); refine blk_put (cs := #[.int .i64 t281, .int .u8 0]) ?_ 1 _ rfl; (with_reducible repeat (first | apply bN_ | apply bD_ | apply bA_)); refine blk_put (cs := #[.int .i64 0, .int .u8 0]) ?_ 0 _ rfl; (with_reducible repeat (first | apply bN_ | apply bD_ | apply bA_)); exact BK280.out) Tryd.underlying104 rfl (by kernel_rfl)) rfl ?_
  exact ⟨by first | rfl | (simp [errW_none, errW_some] <;> rfl) | (simp [*, errW_none, errW_some] <;> rfl), by repeat (first | (with_reducible first | exact HB.out | apply ba_ | apply bn_ | apply bd_ | refine below_set ?_ GE280.out) | exact HB.out)⟩
 ·
  rw [if_neg c3] at H
  have c3b0 : (t281 == 4) = false := beq_eq_false_iff_ne.mpr c3
  have c3b1 : (t281 != 4) = true := bne_iff_ne.mpr c3
  have HC8 := Aside0.mk H
  clear H
  go_enter Tryd.func94, Tryd.ntmps94
  go_upto_if 12 with (first | ((with_reducible refine gate_dst (N := 2) rfl ?_); refine box_event ?hg (N := 2) ?hd (cs := #[.int .i64 0, .int .u8 0]) (t := 104) ?hr ?_; (case hd => rfl); (case hg => rfl); (case hr => first | (go_simp; done) | (go_simp; rfl)); intro gb280 hg w9 hbox hb; have n0_ := Aside0.mk (below_step (by repeat (first | (with_reducible first | exact HB.out | apply ba_ | apply bn_ | apply bd_) | exact HB.out)) hb); have n1_ := Aside0.mk (hbox); have n2_ := Aside0.mk ((by rw [hg]; exact (below_size (by repeat (first | (with_reducible first | exact HB.out | apply ba_ | apply bn_ | apply bd_) | exact HB.out))) : w.heap.size ≤ gb280)); have n3_ := Aside0.mk ((by rw [hg]; exact (below_size (by repeat (first | (with_reducible first | exact HB.out | apply ba_ | apply bn_ | apply bd_) | exact HB.out))) : w.heap.size ≤ gb280)); clear HB; have HB := n0_; have BK280 := n1_; have GW280 := n2_; have GE280 := n3_; clear n0_ n1_ n2_ n3_; clear hb hbox hg) | ((with_reducible refine gate_callee (f := 108) rfl ?_); refine goesL_ (some 8) rfl rfl Tryd.func108 (by kernel_rfl) rfl #[.int .u64 (IntKind.u64.wrap (Go.bits .and .i64 a0 63))] rfl (by (try simp only [List.map_toArray, List.map_cons, List.map_nil]); first | done | rfl | (simp only [List.length_drop, List.length_take]; rfl)) ?_; (with_reducible refine (bits_OnesCount.calls (IntKind.u64.wrap (Go.bits .and .i64 a0 63)) t281 _ A2.out).mono ?_); rintro e w' ⟨rfl, ⟨nd, rfl⟩⟩; refine ⟨_, rfl, ?_⟩))
  (try simp only [Act.put, List.setIfInBounds_toArray, List.set_cons_zero, List.set_cons_succ])
  go_cut [12] (fun v12 wc => ∃ (kq : Nat) (x12_7 : Bool), v12 = .bool x12_7 ∧ Aside0 (table_Ring.j0 kq (Go.bits .and .i64 a0 63) t281 x12_7 = some (r1, r2)) ∧ Aside0 (kq ≤ k) ∧ Aside0 (wc.heap[gb280]? = some (.cells #[.int .i64 0, .int .u8 0] 104 (0, 0))) ∧ Aside0 (Below w.heap.size w wc))
  case first =>
   have H := HC8.out
   clear HC8
   by_cases c10 : t281 = 2
   ·
    rw [if_pos c10] at H
    have c10b0 : (t281 == 2) = true := beq_iff_eq.mpr c10
    have c10b1 : (t281 != 2) = false := bne_eq_false_iff_eq.mpr c10
    clear c10
    (first | rw [c10b0] | (simp only [i64_w, i32_w]; rw [c10b0]) | skip)
    have H' := Aside0.mk H
    clear H
    go_wp2
    go_meet
    case rel => exact ⟨_, ((t281 == 2)), (by first | rfl | (simp; done) | (simp [*]; done)), H', ⟨by first | omega | exact Nat.le_refl _⟩, ⟨by (with_reducible repeat (first | apply bN_ | apply bD_ | apply bA_)); exact BK280.out⟩, ⟨by repeat (first | (with_reducible first | exact HB.out | apply ba_ | apply bn_ | apply bd_ | refine below_set ?_ GE280.out) | exact HB.out)⟩⟩
   ·
    rw [if_neg c10] at H
    have c10b0 : (t281 == 2) = false := beq_eq_false_iff_ne.mpr c10
    have c10b1 : (t281 != 2) = true := bne_iff_ne.mpr c10
    (first | rw [c10b0] | (simp only [i64_w, i32_w]; rw [c10b0]) | skip)
    have H' := Aside0.mk H
    clear H
    go_wp2
    go_meet
    case rel => exact ⟨_, ((t281 == 3)), (by first | rfl | (simp; done) | (simp [*]; done)), H', ⟨by first | omega | exact Nat.le_refl _⟩, ⟨by (with_reducible repeat (first | apply bN_ | apply bD_ | apply bA_)); exact BK280.out⟩, ⟨by repeat (first | (with_reducible first | exact HB.out | apply ba_ | apply bn_ | apply bd_ | refine below_set ?_ GE280.out) | exact HB.out)⟩⟩
  case rest =>
   clear HC8
   try clear c1
   try clear p2
   try clear c3
   try clear c3b0
   try clear c3b1
   try clear c9
   try clear c10
   try clear c10b0
   try clear c10b1
   try clear hcz7_0
   try clear hcz7_1
   try clear hfz7_0
   try clear hfz7_1
   obtain ⟨kq, x12_7, rfl, HA, HJ7, BK280, HB⟩ := hcut
   cases kq with
   | zero => exact absurd HA.out (by simp [table_Ring.j0])
   | succ kj7 =>
    have H := HA.out
    clear HA
    simp only [table_Ring.j0] at H
    by_cases c11 : x12_7 = true
    ·
     subst c11
     have H1 : ((XLetter.f (Go.bits .and .i64 a0 63)).bind fun t283 => (some (t281, t283))) = some (r1, r2) := by rw [if_pos rfl] at H; exact H
     clear H
     have H := H1
     clear H1
     replace H := Option.bind_eq_some_iff.mp H
     obtain ⟨t283, A120, H⟩ := H
     replace H : (some (t281, t283)) = some (r1, r2) := H
     have A12 := Aside0.mk A120
     clear A120
     simp only [Option.some.injEq, Prod.mk.injEq] at H
     obtain ⟨rfl, rfl⟩ := H
     go_wp2_with (first | ((with_reducible refine gate_callee (f := 109) rfl ?_); refine goesL_ (some 20) rfl rfl Tryd.func109 (by kernel_rfl) rfl #[.int .i64 (Go.bits .and .i64 a0 63)] rfl (by (try simp only [List.map_toArray, List.map_cons, List.map_nil]); first | done | rfl | (simp only [List.length_drop, List.length_take]; rfl)) ?_; (with_reducible refine (XLetter.calls (Go.bits .and .i64 a0 63) t283 _ A12.out).mono ?_); rintro e w13 ⟨rfl, hb⟩; refine ⟨_, rfl, ?_⟩; have n0_ := Aside0.mk (blk_below (g := gb280) (o := .cells #[.int .i64 0, .int .u8 0] 104 (0, 0)) (by (with_reducible repeat (first | apply bN_ | apply bD_ | apply bA_)); exact BK280.out) hb); have n1_ := Aside0.mk (below_step (by repeat (first | (with_reducible first | exact HB.out | apply ba_ | apply bn_ | apply bd_ | refine below_set ?_ GE280.out) | exact HB.out)) hb); clear BK280; clear HB; have BK280 := n0_; have HB := n1_; clear n0_ n1_; (try clear hb); (try clear hb2); (try clear hk); (try clear hi); have hcz14_0 : w13.cell? ⟨gb280, 0, none⟩ = some (.int .i64 0) := (blk_cell BK280.out 0).trans rfl; have hcz14_1 : w13.cell? ⟨gb280, 1, none⟩ = some (.int .u8 0) := (blk_cell BK280.out 1).trans rfl; have hfz14_0 := blk_frozen BK280.out 0; have hfz14_1 := blk_frozen BK280.out 1))
     refine bodyPost_ret (results_cell_row rfl _ _ gb280 104 #[.int .i64 t281, .int .u8 t283] (0, 0) _ rfl (by (with_reducible repeat (first | apply bN_ | apply bD_ | apply bA_)); refine blk_put (cs := #[.int .i64 t281, .int .u8 0]) ?_ 1 _ rfl; (with_reducible repeat (first | apply bN_ | apply bD_ | apply bA_)); refine blk_put (cs := #[.int .i64 0, .int .u8 0]) ?_ 0 _ rfl; (with_reducible repeat (first | apply bN_ | apply bD_ | apply bA_)); exact BK280.out) Tryd.underlying104 rfl (by kernel_rfl)) rfl ?_
     exact ⟨by first | rfl | (simp [errW_none, errW_some] <;> rfl) | (simp [*, errW_none, errW_some] <;> rfl), by repeat (first | (with_reducible first | exact HB.out | apply ba_ | apply bn_ | apply bd_ | refine below_set ?_ GE280.out) | exact HB.out)⟩
    ·
     replace c11 := Bool.eq_false_iff.mpr c11
     subst c11
     have H1 : (some (t281, 0)) = some (r1, r2) := by rw [if_neg (show ¬ (false = true) by decide)] at H; exact H
     clear H
     have H := H1
     clear H1
     simp only [Option.some.injEq, Prod.mk.injEq] at H
     obtain ⟨rfl, rfl⟩ := H
     have hcz15_0 : wc.cell? ⟨gb280, 0, none⟩ = some (.int .i64 0) := (blk_cell BK280.out 0).trans rfl
     have hcz15_1 : wc.cell? ⟨gb280, 1, none⟩ = some (.int .u8 0) := (blk_cell BK280.out 1).trans rfl
     have hfz15_0 := blk_frozen BK280.out 0
     have hfz15_1 := blk_frozen BK280.out 1
     go_wp2
     refine bodyPost_ret (results_cell_row rfl _ _ gb280 104 #[.int .i64 t281, .int .u8 0] (0, 0) _ rfl (by (with_reducible repeat (first | apply bN_ | apply bD_ | apply bA_)); refine blk_put (cs := #[.int .i64 t281, .int .u8 0]) ?_ 1 _ rfl; (with_reducible repeat (first | apply bN_ | apply bD_ | apply bA_)); refine blk_put (cs := #[.int .i64 0, .int .u8 0]) ?_ 0 _ rfl; (with_reducible repeat (first | apply bN_ | apply bD_ | apply bA_)); exact BK280.out) Tryd.underlying104 rfl (by kernel_rfl)) rfl ?_
     exact ⟨by first | rfl | (simp [errW_none, errW_some] <;> rfl) | (simp [*, errW_none, errW_some] <;> rfl), by repeat (first | (with_reducible first | exact HB.out | apply ba_ | apply bn_ | apply bd_ | refine below_set ?_ GE280.out) | exact HB.out)⟩
def table_Rings.l0 : Nat → Int → Int → Int → Int → Option (Int)
 | 0, _, _, _, _ => none
 | k + 1, x3, x5, x285000, x285001 => if x5 < 64 then ((table_Ring.f k x5).bind fun bt285 => (if (bt285.1 == x285000 && (bt285.2 == x285001)) = true then (if 0 ≤ x5 then (table_Rings.l0 k (Go.bits .or .u64 x3 (shl .u64 1 x5)) (wrap64 (x5 + 1)) x285000 x285001) else (none)) else (table_Rings.l0 k x3 (wrap64 (x5 + 1)) x285000 x285001))) else (some x3)
def table_Rings.f (k : Nat) (a0_0 : Int) (a0_1 : Int) : Option (Int) := table_Rings.l0 k 0 0 a0_0 a0_1
theorem table_Rings.mono_l : ∀ k, (∀ y0 y1 y2 y3, LeO (table_Rings.l0 k y0 y1 y2 y3) (table_Rings.l0 (k + 1) y0 y1 y2 y3))
 | 0 => fun _ _ _ _ r h => by simp [table_Rings.l0] at h
 | k + 1 => by
  have ih0 := table_Rings.mono_l k
  ·
   intro y0 y1 y2 y3
   unfold table_Rings.l0
   repeat' first
   | (with_reducible exact ih0 _ _ _ _)
   | (with_reducible exact table_Ring.mono _ _)
   | (with_reducible exact LeO.refl _)
   | (with_reducible exact LeO.none _)
   | (with_reducible refine LeO.ite ?_ ?_)
   | (with_reducible refine LeO.bind ?_ (fun _ => ?_))
   | exact ih0 _ _ _ _
   | exact table_Ring.mono _ _
   | exact LeO.none _
   | refine LeO.ite ?_ ?_
   | refine LeO.bind ?_ (fun _ => ?_)
theorem table_Rings.mono : ∀ a0 a1 k, LeO (table_Rings.f k a0 a1) (table_Rings.f (k + 1) a0 a1) := by
 intro a0 a1 k
 have ih0 := table_Rings.mono_l k
 unfold table_Rings.f
 repeat' first
   | (with_reducible exact ih0 _ _ _ _)
   | (with_reducible exact table_Ring.mono _ _)
   | (with_reducible exact LeO.refl _)
   | (with_reducible exact LeO.none _)
   | (with_reducible refine LeO.ite ?_ ?_)
   | (with_reducible refine LeO.bind ?_ (fun _ => ?_))
   | exact ih0 _ _ _ _
   | exact table_Ring.mono _ _
   | exact LeO.none _
   | refine LeO.ite ?_ ?_
   | refine LeO.bind ?_ (fun _ => ?_)
set_option maxHeartbeats 8000000 in
set_option maxRecDepth 100000 in
theorem table_Rings.calls (k : Nat) (a0_0 : Int) (a0_1 : Int) (r : Int) (w : World) (h : table_Rings.f k a0_0 a0_1 = some r) :
  Calls Tryd.prog 59 #[.agg #[.int .i64 a0_0, .int .u8 a0_1]] w fun e w' => e = .returned (.int .u64 r) ∧ Below w.heap.size w w' := by
 have hu104 := Tryd.underlying104
 have HB := Aside0.mk (Below.refl w.heap.size w)
 have H : (table_Rings.l0 k 0 0 a0_0 a0_1) = some r := h
 clear h
 have H' := Aside0.mk H
 clear H
 go_enter Tryd.func59, Tryd.ntmps59
 go_wp2_with (first | ((with_reducible refine gate_dst (N := 1) rfl ?_); refine box_event ?hg (N := 1) ?hd (cs := #[.int .i64 a0_0, .int .u8 a0_1]) (t := 104) ?hr ?_; (case hd => rfl); (case hg => rfl); (case hr => first | (go_simp; done) | (go_simp; rfl)); intro gb284 hg w2 hbox hb; have n0_ := Aside0.mk (below_step (by repeat (first | (with_reducible first | exact HB.out | apply ba_ | apply bn_ | apply bd_) | exact HB.out)) hb); have n1_ := Aside0.mk (hbox); have n2_ := Aside0.mk ((by rw [hg]; exact (below_size (by repeat (first | (with_reducible first | exact HB.out | apply ba_ | apply bn_ | apply bd_) | exact HB.out))) : w.heap.size ≤ gb284)); have n3_ := Aside0.mk ((by rw [hg]; exact (below_size (by repeat (first | (with_reducible first | exact HB.out | apply ba_ | apply bn_ | apply bd_) | exact HB.out))) : w.heap.size ≤ gb284)); clear HB; have HB := n0_; have BK284 := n1_; have GW284 := n2_; have GE284 := n3_; clear n0_ n1_ n2_ n3_; clear hb hbox hg))
 go_loopg [3, 5] k (fun kq v3 v5 w' => ∃ (x3_1 : Int) (x5_1 : Int), v3 = .int .u64 x3_1 ∧ v5 = .int .i64 x5_1 ∧ Aside0 (table_Rings.l0 kq x3_1 x5_1 a0_0 a0_1 = some r) ∧ Aside0 (kq ≤ k) ∧ Aside0 (w'.heap[gb284]? = some (.cells #[.int .i64 a0_0, .int .u8 a0_1] 104 (0, 0))) ∧ Aside0 (Below w.heap.size w w'))
 case atStart => exact ⟨(0), (0), (by first | rfl | (simp; done) | (simp [*]; done)), (by first | rfl | (simp; done) | (simp [*]; done)), H', ⟨Nat.le_refl _⟩, ⟨by (with_reducible repeat (first | apply bN_ | apply bD_ | apply bA_)); exact BK284.out⟩, ⟨by repeat (first | (with_reducible first | exact HB.out | apply ba_ | apply bn_ | apply bd_ | refine below_set ?_ GE284.out) | exact HB.out)⟩⟩
 case round =>
  clear H'
  try clear p2
  obtain ⟨x3_1, x5_1, rfl, rfl, HA, HK1, BK284, HB⟩ := hrel
  cases gk with
  | zero => exact absurd HA.out (by simp [table_Rings.l0])
  | succ k1 =>
   have H := HA.out
   clear HA
   simp only [table_Rings.l0] at H
   by_cases c3 : x5_1 < 64
   ·
    rw [if_pos c3] at H
    have c3b0 : decide (x5_1 < 64) = true := decide_eq_true c3
    clear c3
    replace H := Option.bind_eq_some_iff.mp H
    obtain ⟨⟨t285, t286⟩, A40, H⟩ := H
    replace H : (if (t285 == a0_0 && (t286 == a0_1)) = true then (if 0 ≤ x5_1 then (table_Rings.l0 k1 (Go.bits .or .u64 x3_1 (shl .u64 1 x5_1)) (wrap64 (x5_1 + 1)) a0_0 a0_1) else (none)) else (table_Rings.l0 k1 x3_1 (wrap64 (x5_1 + 1)) a0_0 a0_1)) = some r := H
    have A4 := Aside0.mk A40
    clear A40
    by_cases c5 : (t285 == a0_0 && (t286 == a0_1)) = true
    ·
     rw [if_pos c5] at H
     have c5b0 : (t285 == a0_0 && (t286 == a0_1)) = true := c5
     (try (have c5b1 : decide (t285 = a0_0 && (t286 == a0_1)) = true := by simpa using c5))
     (try (have c5b2 : (t285 == a0_0 && (t286 == a0_1)) = true := by simpa using c5))
     clear c5
     by_cases c6 : 0 ≤ x5_1
     ·
      rw [if_pos c6] at H
      have c6b0 := eq_true c6
      have c6b1 : decide (0 ≤ x5_1) = true := decide_eq_true c6
      clear c6
      obtain ⟨ji7, hji7⟩ : ∃ j_ : Int, (shl .u64 1 x5_1) = j_ := ⟨_, rfl⟩
      replace H : (table_Rings.l0 k1 (Go.bits .or .u64 x3_1 (ji7)) (wrap64 (x5_1 + 1)) a0_0 a0_1) = some r := by first | (rw [hji7] at H; exact H) | (simp only [hji7] at H ⊢; exact H)
      (try rw [hji7] at A4)
      have hji7_ : (IntKind.u64.wrap (1 * 2 ^ min x5_1.toNat 64)) = ji7 := hji7
      have hji7z : x5_1 ≤ 64 → (IntKind.u64.wrap (1 * 2 ^ x5_1.toNat)) = ji7 := shl_small hji7
      have hji7u : (IntKind.u64.wrap (2 ^ min x5_1.toNat 64)) = ji7 := by have h_ := hji7_; rw [Int.one_mul] at h_; exact h_
      have hji7v : x5_1 ≤ 64 → (IntKind.u64.wrap (2 ^ x5_1.toNat)) = ji7 := fun hle_ => by have h_ := hji7z hle_; rw [Int.one_mul] at h_; exact h_
      have H' := Aside0.mk H
      clear H
      try go_wp2
      have n0_ := Aside0.mk (blk_drew BK284.out)
      have n1_ := Aside0.mk (below_drew1 HB.out)
      clear BK284
      clear HB
      have BK284 := n0_
      have HB := n1_
      clear n0_ n1_
      refine start_ (n := 4) (S := fun w' => w'.cell? ⟨gb284, 0, none⟩ = some (.int .i64 a0_0) ∧ w'.cell? ⟨gb284, 1, none⟩ = some (.int .u8 a0_1)) (ds := []) #[false, false, false, false] (by kernel_rfl) rfl rfl ⟨(blk_cell BK284.out 0).trans rfl, (blk_cell BK284.out 1).trans rfl⟩ (fun hHeld => ?_)
      generalize wr.drew = w8 at BK284 HB hHeld ⊢
      refine pure_ (i := 0) (N := some 8) (v := ?_) (a' := ?_) #[true, false, false, false] rfl rfl (by kernel_rfl) (fun _ _ _ h => h) (Or.inl ⟨by rfl, ?_⟩) ?_ ?_
      rotate_left
      ·
       intro w'
       go_simp
       with_reducible rfl
      rotate_left
      ·
       simp only [Act.put, List.setIfInBounds_toArray, List.set_cons_zero, List.set_cons_succ, i64_w, i32_w]
       rfl
      refine take_ (i := 2) (N := some 10) (v := ?_) (a' := ?_) #[true, false, true, false] rfl rfl (by kernel_rfl) (fun _ _ _ h => h) (Or.inl ⟨by rfl, ?_⟩) hHeld ?_ ?_
      rotate_left
      ·
       rintro w' ⟨s0, s1⟩
       go_simp
       with_reducible rfl
      rotate_left
      ·
       simp only [Act.put, List.setIfInBounds_toArray, List.set_cons_zero, List.set_cons_succ, i64_w, i32_w]
       rfl
      refine one_ (i := 1) (N := some 9) #[true, true, true, false] rfl rfl (by kernel_rfl) (by decide) (fun K hK => ?_)
      refine goes_ Tryd.func94 (by kernel_rfl) rfl #[.int .i64 x5_1] (by rfl) rfl rfl (by (try simp only [List.map_toArray, List.map_cons, List.map_nil]); first | done | rfl | (simp only [List.length_drop, List.length_take]; rfl)) ?_
      with_reducible refine (table_Ring.calls k1 x5_1 t285 t286 _ A4.out).mono ?_
      rintro e w9 ⟨rfl, hb⟩
      refine ⟨_, rfl, ?_⟩
      have n0_ := Aside0.mk (blk_below (g := gb284) (o := .cells #[.int .i64 a0_0, .int .u8 a0_1] 104 (0, 0)) (by (with_reducible repeat (first | apply bN_ | apply bD_ | apply bA_)); exact BK284.out) hb)
      have n1_ := Aside0.mk (below_step (by repeat (first | (with_reducible first | exact HB.out | apply ba_ | apply bn_ | apply bd_ | refine below_set ?_ GE284.out) | exact HB.out)) hb)
      clear BK284
      clear HB
      have BK284 := n0_
      have HB := n1_
      clear n0_ n1_
      (try clear hb)
      (try clear hb2)
      (try clear hk)
      (try clear hi)
      refine hK.out _ _ ⟨(blk_cell BK284.out 0).trans rfl, (blk_cell BK284.out 1).trans rfl⟩ (fun hHeld => ?_)
      clear hK K
      refine norm_ (a' := ?_) ?_ ?_
      rotate_left
      ·
       show Act.put _ (some 9) _ = _
       simp only [Act.put, List.setIfInBounds_toArray, List.set_cons_zero, List.set_cons_succ, i64_w, i32_w]
       rfl
      refine pure_ (i := 3) (N := some 11) (v := ?_) (a' := ?_) #[true, true, true, true] rfl rfl (by kernel_rfl) (fun _ _ _ h => h) (Or.inl ⟨by rfl, ?_⟩) ?_ ?_
      rotate_left
      ·
       intro w'
       go_simp
       with_reducible rfl
      rotate_left
      ·
       simp only [Act.put, List.setIfInBounds_toArray, List.set_cons_zero, List.set_cons_succ, i64_w, i32_w]
       rfl
      refine done_ (by kernel_rfl) ?_
      try go_wp2
      go_roundg k1
      case measure => have := HK1.out; omega
      case rel => exact ⟨(Go.bits .or .u64 x3_1 (ji7)), (wrap64 (x5_1 + 1)), (by first | rfl | (simp; done) | (simp only [← hji7] <;> (first | rfl | simp)) | (simp [*]; done)), (by first | rfl | (simp; done) | (simp [*]; done)), H', ⟨by have := HK1.out; omega⟩, ⟨by (with_reducible repeat (first | apply bN_ | apply bD_ | apply bA_)); exact BK284.out⟩, ⟨by repeat (first | (with_reducible first | exact HB.out | apply ba_ | apply bn_ | apply bd_ | refine below_set ?_ GE284.out) | exact HB.out)⟩⟩
     ·
      rw [if_neg c6] at H
      exact absurd H (by simp)
    ·
     rw [if_neg c5] at H
     have c5b0 : (t285 == a0_0 && (t286 == a0_1)) = false := by simpa using c5
     (try (have c5b1 : decide (t285 = a0_0 && (t286 == a0_1)) = false := by simpa using c5))
     (try (have c5b2 : (t285 == a0_0 && (t286 == a0_1)) = false := by simpa using c5))
     (try (have c5b3 : ¬ (t285 = a0_0 && (t286 == a0_1)) := by simpa using c5))
     clear c5
     have H' := Aside0.mk H
     clear H
     try go_wp2
     have n0_ := Aside0.mk (blk_drew BK284.out)
     have n1_ := Aside0.mk (below_drew1 HB.out)
     clear BK284
     clear HB
     have BK284 := n0_
     have HB := n1_
     clear n0_ n1_
     refine start_ (n := 4) (S := fun w' => w'.cell? ⟨gb284, 0, none⟩ = some (.int .i64 a0_0) ∧ w'.cell? ⟨gb284, 1, none⟩ = some (.int .u8 a0_1)) (ds := []) #[false, false, false, false] (by kernel_rfl) rfl rfl ⟨(blk_cell BK284.out 0).trans rfl, (blk_cell BK284.out 1).trans rfl⟩ (fun hHeld => ?_)
     generalize wr.drew = w10 at BK284 HB hHeld ⊢
     refine pure_ (i := 0) (N := some 8) (v := ?_) (a' := ?_) #[true, false, false, false] rfl rfl (by kernel_rfl) (fun _ _ _ h => h) (Or.inl ⟨by rfl, ?_⟩) ?_ ?_
     rotate_left
     ·
      intro w'
      go_simp
      with_reducible rfl
     rotate_left
     ·
      simp only [Act.put, List.setIfInBounds_toArray, List.set_cons_zero, List.set_cons_succ, i64_w, i32_w]
      rfl
     refine take_ (i := 2) (N := some 10) (v := ?_) (a' := ?_) #[true, false, true, false] rfl rfl (by kernel_rfl) (fun _ _ _ h => h) (Or.inl ⟨by rfl, ?_⟩) hHeld ?_ ?_
     rotate_left
     ·
      rintro w' ⟨s0, s1⟩
      go_simp
      with_reducible rfl
     rotate_left
     ·
      simp only [Act.put, List.setIfInBounds_toArray, List.set_cons_zero, List.set_cons_succ, i64_w, i32_w]
      rfl
     refine one_ (i := 1) (N := some 9) #[true, true, true, false] rfl rfl (by kernel_rfl) (by decide) (fun K hK => ?_)
     refine goes_ Tryd.func94 (by kernel_rfl) rfl #[.int .i64 x5_1] (by rfl) rfl rfl (by (try simp only [List.map_toArray, List.map_cons, List.map_nil]); first | done | rfl | (simp only [List.length_drop, List.length_take]; rfl)) ?_
     with_reducible refine (table_Ring.calls k1 x5_1 t285 t286 _ A4.out).mono ?_
     rintro e w11 ⟨rfl, hb⟩
     refine ⟨_, rfl, ?_⟩
     have n0_ := Aside0.mk (blk_below (g := gb284) (o := .cells #[.int .i64 a0_0, .int .u8 a0_1] 104 (0, 0)) (by (with_reducible repeat (first | apply bN_ | apply bD_ | apply bA_)); exact BK284.out) hb)
     have n1_ := Aside0.mk (below_step (by repeat (first | (with_reducible first | exact HB.out | apply ba_ | apply bn_ | apply bd_ | refine below_set ?_ GE284.out) | exact HB.out)) hb)
     clear BK284
     clear HB
     have BK284 := n0_
     have HB := n1_
     clear n0_ n1_
     (try clear hb)
     (try clear hb2)
     (try clear hk)
     (try clear hi)
     refine hK.out _ _ ⟨(blk_cell BK284.out 0).trans rfl, (blk_cell BK284.out 1).trans rfl⟩ (fun hHeld => ?_)
     clear hK K
     refine norm_ (a' := ?_) ?_ ?_
     rotate_left
     ·
      show Act.put _ (some 9) _ = _
      simp only [Act.put, List.setIfInBounds_toArray, List.set_cons_zero, List.set_cons_succ, i64_w, i32_w]
      rfl
     refine pure_ (i := 3) (N := some 11) (v := ?_) (a' := ?_) #[true, true, true, true] rfl rfl (by kernel_rfl) (fun _ _ _ h => h) (Or.inl ⟨by rfl, ?_⟩) ?_ ?_
     rotate_left
     ·
      intro w'
      go_simp
      with_reducible rfl
     rotate_left
     ·
      simp only [Act.put, List.setIfInBounds_toArray, List.set_cons_zero, List.set_cons_succ, i64_w, i32_w]
      rfl
     refine done_ (by kernel_rfl) ?_
     try go_wp2
     go_roundg k1
     case measure => have := HK1.out; omega
     case rel => exact ⟨(x3_1), (wrap64 (x5_1 + 1)), (by first | rfl | (simp; done) | (simp [*]; done)), (by first | rfl | (simp; done) | (simp [*]; done)), H', ⟨by have := HK1.out; omega⟩, ⟨by (with_reducible repeat (first | apply bN_ | apply bD_ | apply bA_)); exact BK284.out⟩, ⟨by repeat (first | (with_reducible first | exact HB.out | apply ba_ | apply bn_ | apply bd_ | refine below_set ?_ GE284.out) | exact HB.out)⟩⟩
   ·
    rw [if_neg c3] at H
    have c3b0 : decide (x5_1 < 64) = false := decide_eq_false c3
    clear c3
    obtain rfl := Option.some.inj H
    go_wp2
    go_ret
    exact ⟨by first | rfl | (simp [errW_none, errW_some] <;> rfl) | (simp [*, errW_none, errW_some] <;> rfl), by repeat (first | (with_reducible first | exact HB.out | apply ba_ | apply bn_ | apply bd_ | refine below_set ?_ GE284.out) | exact HB.out)⟩
end Go.Proofs.YtaeenefdbahfoaaDoor.H
namespace Go.Proofs.YtaeenefdbahfoaaDoor.H
open Go.RowKit Go.Proofs.YtaeenefdbahfoaaDoorW.PrintWords Go.Proofs.YtaeenefdbahfoaaDoorW.PrintLast Go.Proofs.YtaeenefdbahfoaaDoorW.PrintMore
attribute [local go_sem] max2_int min2_int max_two min_two max_three min_three max_four min_four   -- for this text's walks alone
set_option linter.unusedVariables false
set_option linter.unusedSimpArgs false
attribute [local go_sem high] eqA65
def honeycomblaw08_awake.f (k : Nat)  : Option (Bool) := (table_Rings.f k 2 111).bind fun t287 => ((table_Rings.f k 2 109).bind fun t288 => ((table_Rings.f k 2 112).bind fun t289 => ((XOf.f (([(⟨(⟨0, 0⟩ : S63), 0⟩ : S65), (⟨(⟨1, 0⟩ : S63), 0⟩ : S65)] : List (S65)))).bind fun t294 => ((XStep.f 1 (Go.bits .or .u64 (Go.bits .or .u64 t287 t288) t289) 0 0 0 t294).bind fun bt297 => (if bt297.2.isNone = true then (if (bt297.1.length : Int) = 2 then (if 0 < (bt297.1.length : Int) then (if ((((rd_T65 bt297.1 0).f0.f0) == 1 && (((rd_T65 bt297.1 0).f0.f1) == (-1))) && (((rd_T65 bt297.1 0).f1) == 0)) = true then (if 1 < (bt297.1.length : Int) then (some ((((rd_T65 bt297.1 1).f0.f0) == 0 && (((rd_T65 bt297.1 1).f0.f1) == 1)) && (((rd_T65 bt297.1 1).f1) == 0))) else (none)) else (some false)) else (none)) else (some false)) else (some false))))))
def honeycomblaw08_awake.T2 : Bool × List (List Nat × List Nat) := (true, [([], []), ([], []), ([], []), ([2], [2]), ([1, 3], [1, 3]), ([4], [4]), ([0, 5, 5], [0, 5]), ([6], [6]), ([7], [7]), ([7], [7]), ([8, 6, 0, 1, 2, 3, 4, 5, 6, 7, 8], [8]), ([9, 10, 0, 1, 2, 3, 4, 5, 6, 7, 8, 9, 10], [9])])
def honeycomblaw08_awake.B2 : List Nat := [0, 0, 0, 4, 14, 30, 63, 127, 255, 255, 511, 2047]
theorem honeycomblaw08_awake.tab2 : rtab .any (opsOf Tryd.f20 2) = honeycomblaw08_awake.T2 := by kernel_rfl
theorem honeycomblaw08_awake.bits2 : waitsOk honeycomblaw08_awake.T2.2 honeycomblaw08_awake.B2 = true := by kernel_rfl
set_option maxHeartbeats 8000000 in
set_option maxRecDepth 100000 in
theorem honeycomblaw08_awake.calls (k : Nat)  (r : Bool) (w : World) (hGSix : Six w) (h : honeycomblaw08_awake.f k  = some r) (hr_ : r = true) :
  Calls Tryd.prog 20 #[] w fun e w' => e = .returned (.bool r) ∧ Below w.heap.size w w' := by
 have Hr_ := Aside0.mk hr_
 clear hr_
 have hu104 := Tryd.underlying104
 have hu23 := Tryd.underlying23
 have hu29 := Tryd.underlying29
 have hu65 := Tryd.underlying65
 have hu63 := Tryd.underlying63
 have hu39 := Tryd.underlying39
 have hu87 := Tryd.underlying87
 have HB := Aside0.mk (Below.refl w.heap.size w)
 have HGSix := Aside0.mk hGSix
 clear hGSix
 have H : ((table_Rings.f k 2 111).bind fun t287 => ((table_Rings.f k 2 109).bind fun t288 => ((table_Rings.f k 2 112).bind fun t289 => ((XOf.f (([(⟨(⟨0, 0⟩ : S63), 0⟩ : S65), (⟨(⟨1, 0⟩ : S63), 0⟩ : S65)] : List (S65)))).bind fun t294 => ((XStep.f 1 (Go.bits .or .u64 (Go.bits .or .u64 t287 t288) t289) 0 0 0 t294).bind fun bt297 => (if bt297.2.isNone = true then (if (bt297.1.length : Int) = 2 then (if 0 < (bt297.1.length : Int) then (if ((((rd_T65 bt297.1 0).f0.f0) == 1 && (((rd_T65 bt297.1 0).f0.f1) == (-1))) && (((rd_T65 bt297.1 0).f1) == 0)) = true then (if 1 < (bt297.1.length : Int) then (some ((((rd_T65 bt297.1 1).f0.f0) == 0 && (((rd_T65 bt297.1 1).f0.f1) == 1)) && (((rd_T65 bt297.1 1).f1) == 0))) else (none)) else (some false)) else (none)) else (some false)) else (some false))))))) = some r := h
 clear h
 replace H := Option.bind_eq_some_iff.mp H
 obtain ⟨t287, A10, H⟩ := H
 replace H : ((table_Rings.f k 2 109).bind fun t288 => ((table_Rings.f k 2 112).bind fun t289 => ((XOf.f (([(⟨(⟨0, 0⟩ : S63), 0⟩ : S65), (⟨(⟨1, 0⟩ : S63), 0⟩ : S65)] : List (S65)))).bind fun t294 => ((XStep.f 1 (Go.bits .or .u64 (Go.bits .or .u64 t287 t288) t289) 0 0 0 t294).bind fun bt297 => (if bt297.2.isNone = true then (if (bt297.1.length : Int) = 2 then (if 0 < (bt297.1.length : Int) then (if ((((rd_T65 bt297.1 0).f0.f0) == 1 && (((rd_T65 bt297.1 0).f0.f1) == (-1))) && (((rd_T65 bt297.1 0).f1) == 0)) = true then (if 1 < (bt297.1.length : Int) then (some ((((rd_T65 bt297.1 1).f0.f0) == 0 && (((rd_T65 bt297.1 1).f0.f1) == 1)) && (((rd_T65 bt297.1 1).f1) == 0))) else (none)) else (some false)) else (none)) else (some false)) else (some false)))))) = some r := H
 have A1 := Aside0.mk A10
 clear A10
 replace H := Option.bind_eq_some_iff.mp H
 obtain ⟨t288, A20, H⟩ := H
 replace H : ((table_Rings.f k 2 112).bind fun t289 => ((XOf.f (([(⟨(⟨0, 0⟩ : S63), 0⟩ : S65), (⟨(⟨1, 0⟩ : S63), 0⟩ : S65)] : List (S65)))).bind fun t294 => ((XStep.f 1 (Go.bits .or .u64 (Go.bits .or .u64 t287 t288) t289) 0 0 0 t294).bind fun bt297 => (if bt297.2.isNone = true then (if (bt297.1.length : Int) = 2 then (if 0 < (bt297.1.length : Int) then (if ((((rd_T65 bt297.1 0).f0.f0) == 1 && (((rd_T65 bt297.1 0).f0.f1) == (-1))) && (((rd_T65 bt297.1 0).f1) == 0)) = true then (if 1 < (bt297.1.length : Int) then (some ((((rd_T65 bt297.1 1).f0.f0) == 0 && (((rd_T65 bt297.1 1).f0.f1) == 1)) && (((rd_T65 bt297.1 1).f1) == 0))) else (none)) else (some false)) else (none)) else (some false)) else (some false))))) = some r := H
 have A2 := Aside0.mk A20
 clear A20
 replace H := Option.bind_eq_some_iff.mp H
 obtain ⟨t289, A30, H⟩ := H
 replace H : ((XOf.f (([(⟨(⟨0, 0⟩ : S63), 0⟩ : S65), (⟨(⟨1, 0⟩ : S63), 0⟩ : S65)] : List (S65)))).bind fun t294 => ((XStep.f 1 (Go.bits .or .u64 (Go.bits .or .u64 t287 t288) t289) 0 0 0 t294).bind fun bt297 => (if bt297.2.isNone = true then (if (bt297.1.length : Int) = 2 then (if 0 < (bt297.1.length : Int) then (if ((((rd_T65 bt297.1 0).f0.f0) == 1 && (((rd_T65 bt297.1 0).f0.f1) == (-1))) && (((rd_T65 bt297.1 0).f1) == 0)) = true then (if 1 < (bt297.1.length : Int) then (some ((((rd_T65 bt297.1 1).f0.f0) == 0 && (((rd_T65 bt297.1 1).f0.f1) == 1)) && (((rd_T65 bt297.1 1).f1) == 0))) else (none)) else (some false)) else (none)) else (some false)) else (some false)))) = some r := H
 have A3 := Aside0.mk A30
 clear A30
 obtain ⟨y291, hy291⟩ : ∃ y_ : List (S65), y_ = (([(⟨(⟨0, 0⟩ : S63), 0⟩ : S65), (⟨(⟨1, 0⟩ : S63), 0⟩ : S65)] : List (S65))) := ⟨_, rfl⟩
 replace H : ((XOf.f y291).bind fun t294 => ((XStep.f 1 (Go.bits .or .u64 (Go.bits .or .u64 t287 t288) t289) 0 0 0 t294).bind fun bt297 => (if bt297.2.isNone = true then (if (bt297.1.length : Int) = 2 then (if 0 < (bt297.1.length : Int) then (if ((((rd_T65 bt297.1 0).f0.f0) == 1 && (((rd_T65 bt297.1 0).f0.f1) == (-1))) && (((rd_T65 bt297.1 0).f1) == 0)) = true then (if 1 < (bt297.1.length : Int) then (some ((((rd_T65 bt297.1 1).f0.f0) == 0 && (((rd_T65 bt297.1 1).f0.f1) == 1)) && (((rd_T65 bt297.1 1).f1) == 0))) else (none)) else (some false)) else (none)) else (some false)) else (some false)))) = some r := by first | (rw [hy291]; with_reducible exact H) | (have H2_ := (Option.bind_some _ _).symm.trans H; rw [hy291]; with_reducible exact H2_) | (have H2_ := (Option.bind_some _ _).symm.trans H; with_reducible exact H2_) | with_reducible exact H | (rw [hy291]; exact H) | exact H
 have Ny291 := Aside0.mk hy291
 clear hy291
 replace H := Option.bind_eq_some_iff.mp H
 obtain ⟨t294, A40, H⟩ := H
 replace H : ((XStep.f 1 (Go.bits .or .u64 (Go.bits .or .u64 t287 t288) t289) 0 0 0 t294).bind fun bt297 => (if bt297.2.isNone = true then (if (bt297.1.length : Int) = 2 then (if 0 < (bt297.1.length : Int) then (if ((((rd_T65 bt297.1 0).f0.f0) == 1 && (((rd_T65 bt297.1 0).f0.f1) == (-1))) && (((rd_T65 bt297.1 0).f1) == 0)) = true then (if 1 < (bt297.1.length : Int) then (some ((((rd_T65 bt297.1 1).f0.f0) == 0 && (((rd_T65 bt297.1 1).f0.f1) == 1)) && (((rd_T65 bt297.1 1).f1) == 0))) else (none)) else (some false)) else (none)) else (some false)) else (some false))) = some r := H
 have A4 := Aside0.mk A40
 clear A40
 replace H := Option.bind_eq_some_iff.mp H
 obtain ⟨⟨t297, t300⟩, A50, H⟩ := H
 replace H : (if t300.isNone = true then (if (t297.length : Int) = 2 then (if 0 < (t297.length : Int) then (if ((((rd_T65 t297 0).f0.f0) == 1 && (((rd_T65 t297 0).f0.f1) == (-1))) && (((rd_T65 t297 0).f1) == 0)) = true then (if 1 < (t297.length : Int) then (some ((((rd_T65 t297 1).f0.f0) == 0 && (((rd_T65 t297 1).f0.f1) == 1)) && (((rd_T65 t297 1).f1) == 0))) else (none)) else (some false)) else (none)) else (some false)) else (some false)) = some r := H
 have A5 := Aside0.mk A50
 clear A50
 rcases t300 with _ | q301
 ·
  have H1 : (if (t297.length : Int) = 2 then (if 0 < (t297.length : Int) then (if ((((rd_T65 t297 0).f0.f0) == 1 && (((rd_T65 t297 0).f0.f1) == (-1))) && (((rd_T65 t297 0).f1) == 0)) = true then (if 1 < (t297.length : Int) then (some ((((rd_T65 t297 1).f0.f0) == 0 && (((rd_T65 t297 1).f0.f1) == 1)) && (((rd_T65 t297 1).f1) == 0))) else (none)) else (some false)) else (none)) else (some false)) = some r := by rw [if_pos (show (none : Option Int).isNone = true by rfl)] at H; exact H
  clear H
  have H := H1
  clear H1
  try simp only [errW_none, errW_some]
  by_cases c6 : (t297.length : Int) = 2
  ·
   rw [if_pos c6] at H
   have c6b0 : ((t297.length : Int) == 2) = true := beq_iff_eq.mpr c6
   have c6b1 : ((t297.length : Int) != 2) = false := bne_eq_false_iff_eq.mpr c6
   clear c6
   by_cases c7 : 0 < (t297.length : Int)
   ·
    rw [if_pos c7] at H
    have c7b0 : decide (0 < (t297.length : Int)) = true := decide_eq_true c7
    have c7b1 : decide (0 < t297.length) = true := decide_eq_true (by omega)
    clear c7
    by_cases c8 : ((((rd_T65 t297 0).f0.f0) == 1 && (((rd_T65 t297 0).f0.f1) == (-1))) && (((rd_T65 t297 0).f1) == 0)) = true
    ·
     rw [if_pos c8] at H
     have c8b0 : ((((rd_T65 t297 0).f0.f0) == 1 && (((rd_T65 t297 0).f0.f1) == (-1))) && (((rd_T65 t297 0).f1) == 0)) = true := c8
     clear c8
     by_cases c9 : 1 < (t297.length : Int)
     ·
      rw [if_pos c9] at H
      have c9b0 : decide (1 < (t297.length : Int)) = true := decide_eq_true c9
      have c9b1 : decide (1 < t297.length) = true := decide_eq_true (by omega)
      clear c9
      obtain rfl := Option.some.inj H
      go_enter Tryd.func20, Tryd.ntmps20
      try go_wp2_with (first | ((with_reducible refine gate_callee (f := 59) rfl ?_); refine goesL_ (some 5) rfl rfl Tryd.func59 (by kernel_rfl) rfl #[.agg #[.int .i64 2, .int .u8 111]] rfl (by (try simp only [List.map_toArray, List.map_cons, List.map_nil]); first | done | rfl | (simp only [List.length_drop, List.length_take]; rfl)) ?_; (with_reducible refine (table_Rings.calls k 2 111 t287 _ A1.out).mono ?_); rintro e w10 ⟨rfl, hb⟩; refine ⟨_, rfl, ?_⟩; have n0_ := Aside0.mk (below_step (by repeat (first | (with_reducible first | exact HB.out | apply ba_ | apply bn_ | apply bd_) | exact HB.out)) hb); clear HB; have HB := n0_; clear n0_; (try clear hb); (try clear hb2); (try clear hk); (try clear hi)) | ((with_reducible refine gate_callee (f := 59) rfl ?_); refine goesL_ (some 7) rfl rfl Tryd.func59 (by kernel_rfl) rfl #[.agg #[.int .i64 2, .int .u8 109]] rfl (by (try simp only [List.map_toArray, List.map_cons, List.map_nil]); first | done | rfl | (simp only [List.length_drop, List.length_take]; rfl)) ?_; (with_reducible refine (table_Rings.calls k 2 109 t288 _ A2.out).mono ?_); rintro e w11 ⟨rfl, hb⟩; refine ⟨_, rfl, ?_⟩; have n0_ := Aside0.mk (below_step (by repeat (first | (with_reducible first | exact HB.out | apply ba_ | apply bn_ | apply bd_) | exact HB.out)) hb); clear HB; have HB := n0_; clear n0_; (try clear hb); (try clear hb2); (try clear hk); (try clear hi)) | ((with_reducible refine gate_callee (f := 59) rfl ?_); refine goesL_ (some 10) rfl rfl Tryd.func59 (by kernel_rfl) rfl #[.agg #[.int .i64 2, .int .u8 112]] rfl (by (try simp only [List.map_toArray, List.map_cons, List.map_nil]); first | done | rfl | (simp only [List.length_drop, List.length_take]; rfl)) ?_; (with_reducible refine (table_Rings.calls k 2 112 t289 _ A3.out).mono ?_); rintro e w12 ⟨rfl, hb⟩; refine ⟨_, rfl, ?_⟩; have n0_ := Aside0.mk (below_step (by repeat (first | (with_reducible first | exact HB.out | apply ba_ | apply bn_ | apply bd_) | exact HB.out)) hb); clear HB; have HB := n0_; clear n0_; (try clear hb); (try clear hb2); (try clear hk); (try clear hi)) | ((with_reducible refine gate_dst (N := 1) rfl ?_); (try (refine gate_guard (by rfl) ?_; dsimp only)); refine box_event ?hg (N := 1) ?hd (cs := #[.int .i64 0, .int .u64 0, .int .u64 0, .int .u64 0, .int .u64 0]) (t := 29) ?hr ?_; (case hd => rfl); (case hg => rfl); (case hr => first | (go_simp; done) | (go_simp; rfl)); intro gb290 hg w13 hbox hb; have n0_ := Aside0.mk (below_step (by repeat (first | (with_reducible first | exact HB.out | apply ba_ | apply bn_ | apply bd_) | exact HB.out)) hb); have n1_ := Aside0.mk (hbox); have n2_ := Aside0.mk ((by rw [hg]; exact (below_size (by repeat (first | (with_reducible first | exact HB.out | apply ba_ | apply bn_ | apply bd_) | exact HB.out))) : w.heap.size ≤ gb290)); have n3_ := Aside0.mk ((by rw [hg]; exact (below_size (by repeat (first | (with_reducible first | exact HB.out | apply ba_ | apply bn_ | apply bd_) | exact HB.out))) : w.heap.size ≤ gb290)); clear HB; have HB := n0_; have BK290 := n1_; have GW290 := n2_; have GE290 := n3_; clear n0_ n1_ n2_ n3_; clear hb hbox hg; have hcz14_0 : w13.cell? ⟨gb290, 0, none⟩ = some (.int .i64 0) := (blk_cell BK290.out 0).trans rfl; have hcz14_1 : w13.cell? ⟨gb290, 1, none⟩ = some (.int .u64 0) := (blk_cell BK290.out 1).trans rfl; have hcz14_2 : w13.cell? ⟨gb290, 2, none⟩ = some (.int .u64 0) := (blk_cell BK290.out 2).trans rfl; have hcz14_3 : w13.cell? ⟨gb290, 3, none⟩ = some (.int .u64 0) := (blk_cell BK290.out 3).trans rfl; have hcz14_4 : w13.cell? ⟨gb290, 4, none⟩ = some (.int .u64 0) := (blk_cell BK290.out 4).trans rfl; have hfz14_0 := blk_frozen BK290.out 0; have hfz14_1 := blk_frozen BK290.out 1; have hfz14_2 := blk_frozen BK290.out 2; have hfz14_3 := blk_frozen BK290.out 3; have hfz14_4 := blk_frozen BK290.out 4))
      have n0_ : Aside0 ((((((w13.setCell ⟨gb290, 0, none⟩ (.int .i64 1)).setCell ⟨gb290, 1, none⟩ (.int .u64 (Go.bits .or .u64 (Go.bits .or .u64 t287 t288) t289))).setCell ⟨gb290, 2, none⟩ (.int .u64 0)).setCell ⟨gb290, 3, none⟩ (.int .u64 0)).setCell ⟨gb290, 4, none⟩ (.int .u64 0)).heap[gb290]? = some (.cells #[.int .i64 1, .int .u64 (Go.bits .or .u64 (Go.bits .or .u64 t287 t288) t289), .int .u64 0, .int .u64 0, .int .u64 0] 29 (0, 0))) := ⟨by (with_reducible repeat (first | apply bN_ | apply bD_ | apply bA_)); refine blk_put (cs := #[.int .i64 1, .int .u64 (Go.bits .or .u64 (Go.bits .or .u64 t287 t288) t289), .int .u64 0, .int .u64 0, .int .u64 0]) ?_ 4 _ rfl; (with_reducible repeat (first | apply bN_ | apply bD_ | apply bA_)); refine blk_put (cs := #[.int .i64 1, .int .u64 (Go.bits .or .u64 (Go.bits .or .u64 t287 t288) t289), .int .u64 0, .int .u64 0, .int .u64 0]) ?_ 3 _ rfl; (with_reducible repeat (first | apply bN_ | apply bD_ | apply bA_)); refine blk_put (cs := #[.int .i64 1, .int .u64 (Go.bits .or .u64 (Go.bits .or .u64 t287 t288) t289), .int .u64 0, .int .u64 0, .int .u64 0]) ?_ 2 _ rfl; (with_reducible repeat (first | apply bN_ | apply bD_ | apply bA_)); refine blk_put (cs := #[.int .i64 1, .int .u64 0, .int .u64 0, .int .u64 0, .int .u64 0]) ?_ 1 _ rfl; (with_reducible repeat (first | apply bN_ | apply bD_ | apply bA_)); refine blk_put (cs := #[.int .i64 0, .int .u64 0, .int .u64 0, .int .u64 0, .int .u64 0]) ?_ 0 _ rfl; (with_reducible repeat (first | apply bN_ | apply bD_ | apply bA_)); exact BK290.out⟩
      have n1_ : Aside0 (Below w.heap.size w (((((w13.setCell ⟨gb290, 0, none⟩ (.int .i64 1)).setCell ⟨gb290, 1, none⟩ (.int .u64 (Go.bits .or .u64 (Go.bits .or .u64 t287 t288) t289))).setCell ⟨gb290, 2, none⟩ (.int .u64 0)).setCell ⟨gb290, 3, none⟩ (.int .u64 0)).setCell ⟨gb290, 4, none⟩ (.int .u64 0))) := ⟨by repeat (first | (with_reducible first | exact HB.out | apply ba_ | apply bn_ | apply bd_ | refine below_set ?_ GE290.out) | exact HB.out)⟩
      (try clear BK290)
      (try clear HB)
      generalize (((((w13.setCell ⟨gb290, 0, none⟩ (.int .i64 1)).setCell ⟨gb290, 1, none⟩ (.int .u64 (Go.bits .or .u64 (Go.bits .or .u64 t287 t288) t289))).setCell ⟨gb290, 2, none⟩ (.int .u64 0)).setCell ⟨gb290, 3, none⟩ (.int .u64 0)).setCell ⟨gb290, 4, none⟩ (.int .u64 0)) = w15 at n0_ n1_ ⊢
      have BK290 := n0_
      have HB := n1_
      clear n0_ n1_
      have n0_ := Aside0.mk (blk_drew BK290.out)
      have n1_ := Aside0.mk (below_drew1 HB.out)
      clear BK290
      clear HB
      have BK290 := n0_
      have HB := n1_
      clear n0_ n1_
      refine start_ (n := 12) (S := fun w' => w'.cell? ⟨gb290, 0, none⟩ = some (.int .i64 1) ∧ w'.cell? ⟨gb290, 1, none⟩ = some (.int .u64 (Go.bits .or .u64 (Go.bits .or .u64 t287 t288) t289)) ∧ w'.cell? ⟨gb290, 2, none⟩ = some (.int .u64 0) ∧ w'.cell? ⟨gb290, 3, none⟩ = some (.int .u64 0) ∧ w'.cell? ⟨gb290, 4, none⟩ = some (.int .u64 0)) (ds := []) #[false, false, false, false, false, false, false, false, false, false, false, false] (by kernel_rfl) rfl rfl ⟨(blk_cell BK290.out 0).trans rfl, (blk_cell BK290.out 1).trans rfl, (blk_cell BK290.out 2).trans rfl, (blk_cell BK290.out 3).trans rfl, (blk_cell BK290.out 4).trans rfl⟩ (fun hHeld => ?_); refine with_tabW honeycomblaw08_awake.tab2 honeycomblaw08_awake.bits2 (fun HT_ HW_ => ?_)
      generalize w15.drew = w16 at BK290 HB hHeld ⊢
      refine pure_ (i := 1) (N := some 16) (v := ?_) (a' := ?_) #[false, true, false, false, false, false, false, false, false, false, false, false] rfl rfl (any_of HT_.out (by kernel_rfl)) (fun _ _ _ h => h) (Or.inl ⟨by rfl, ?_⟩) ?_ ?_
      rotate_left
      ·
       intro w'
       go_simp
       with_reducible rfl
      rotate_left
      ·
       simp only [Act.put, List.setIfInBounds_toArray, List.set_cons_zero, List.set_cons_succ, i64_w, i32_w]
       rfl
      refine pure_ (i := 2) (N := some 17) (v := ?_) (a' := ?_) #[false, true, true, false, false, false, false, false, false, false, false, false] rfl rfl (any_of HT_.out (by kernel_rfl)) (fun _ _ _ h => h) (Or.inl ⟨by rfl, ?_⟩) ?_ ?_
      rotate_left
      ·
       intro w'
       go_simp
       with_reducible rfl
      rotate_left
      ·
       simp only [Act.put, List.setIfInBounds_toArray, List.set_cons_zero, List.set_cons_succ, i64_w, i32_w]
       rfl
      refine pure_ (i := 3) (N := some 18) (v := ?_) (a' := ?_) #[false, true, true, true, false, false, false, false, false, false, false, false] rfl rfl (any_of HT_.out (by kernel_rfl)) (fun _ _ _ h => h) (Or.inl ⟨by rfl, ?_⟩) ?_ ?_
      rotate_left
      ·
       intro w'
       go_simp
       with_reducible rfl
      rotate_left
      ·
       simp only [Act.put, List.setIfInBounds_toArray, List.set_cons_zero, List.set_cons_succ, i64_w, i32_w]
       rfl
      refine take_ (i := 0) (N := some 15) (v := ?_) (a' := ?_) #[true, true, true, true, false, false, false, false, false, false, false, false] rfl rfl (take_ofW HT_.out HW_.out (by kernel_rfl)) (fun _ _ _ h => h) (Or.inl ⟨by rfl, ?_⟩) hHeld ?_ ?_
      rotate_left
      ·
       rintro w' ⟨s0, s1, s2, s3, s4⟩
       go_simp
       with_reducible rfl
      rotate_left
      ·
       simp only [Act.put, List.setIfInBounds_toArray, List.set_cons_zero, List.set_cons_succ, i64_w, i32_w]
       rfl
      refine one_ (i := 4) (N := some 19) #[true, true, true, true, true, false, false, false, false, false, false, false] rfl rfl (one_of HT_.out (by kernel_rfl)) (by decide) (fun K hK => ?_)
      refine Kd.R_lit_step k65 _ 65 ?hg (N := 19) ?hd (xs := ([(⟨(⟨0, 0⟩ : S63), 0⟩ : S65), (⟨(⟨1, 0⟩ : S63), 0⟩ : S65)] : List (S65))) (inner := [.int .i64 0, .int .i64 0, .int .i64 0, .int .i64 1, .int .i64 0, .int .i64 0]) (ok := fun _ => True) (okp := fun _ => True) ?hr ?hp (fun _ hk => hk) trivial (Below.refl _ _) (Nat.le_refl _) (by simp) ?_; (case hd => rfl); (case hg => rfl); (case hr => first | (go_simp; done) | (go_simp; rfl)); (case hp => exact (Reps.c3 (show Kd.M k65 _ _ _ (⟨(⟨0, 0⟩ : S63), 0⟩ : S65) [.int .i64 0, .int .i64 0, .int .i64 0] from (k65_mkM _ _ _ (⟨(⟨0, 0⟩ : S63), 0⟩ : S65) )) (Reps.c3 (show Kd.M k65 _ _ _ (⟨(⟨1, 0⟩ : S63), 0⟩ : S65) [.int .i64 1, .int .i64 0, .int .i64 0] from (k65_mkM _ _ _ (⟨(⟨1, 0⟩ : S63), 0⟩ : S65) )) (Reps.none _ _))))
      intro v292 w17 ho18 hb hg_ hnew_
      clear hg_ hnew_
      (first | rw [← Ny291.out] at ho18 | (simp only [Int.reduceToNat] at ho18; rw [← Ny291.out] at ho18))
      have n0_ := Aside0.mk (Kd.R_lower ho18 (below_size (by repeat (first | (with_reducible first | exact HB.out | apply ba_ | apply bn_ | apply bd_ | refine below_set ?_ GE290.out) | exact HB.out))))
      have n1_ := Aside0.mk (blk_below (g := gb290) (o := .cells #[.int .i64 1, .int .u64 (Go.bits .or .u64 (Go.bits .or .u64 t287 t288) t289), .int .u64 0, .int .u64 0, .int .u64 0] 29 (0, 0)) (by (with_reducible repeat (first | apply bN_ | apply bD_ | apply bA_)); exact BK290.out) hb)
      have n2_ := Aside0.mk (below_step (by repeat (first | (with_reducible first | exact HB.out | apply ba_ | apply bn_ | apply bd_ | refine below_set ?_ GE290.out) | exact HB.out)) hb)
      clear BK290
      clear HB
      have HO293 := n0_
      have BK290 := n1_
      have HB := n2_
      clear n0_ n1_ n2_
      clear hb ho18
      obtain ⟨Ao19, co19, eo19⟩ := Kd.R_slice HO293.out
      (first | subst eo19 | (injection eo19 with f1_ f2_ f3_; have f4_ := f1_.symm; have f5_ := f3_.symm; clear f1_ f2_ f3_; subst f4_; subst f5_))
      refine hK.out _ _ ⟨(blk_cell BK290.out 0).trans rfl, (blk_cell BK290.out 1).trans rfl, (blk_cell BK290.out 2).trans rfl, (blk_cell BK290.out 3).trans rfl, (blk_cell BK290.out 4).trans rfl⟩ (fun hHeld => ?_)
      clear hK K
      refine norm_ (a' := ?_) ?_ ?_
      rotate_left
      ·
       show Act.put _ (some 19) _ = _
       simp only [Act.put, List.setIfInBounds_toArray, List.set_cons_zero, List.set_cons_succ, i64_w, i32_w]
       rfl
      refine one_ (i := 5) (N := some 20) #[true, true, true, true, true, true, false, false, false, false, false, false] rfl rfl (one_of HT_.out (by kernel_rfl)) (by decide) (fun K hK => ?_)
      refine goes_ Tryd.func37 (by kernel_rfl) rfl #[.slice Ao19 y291.length co19] (by rfl) rfl rfl (by (try simp only [List.map_toArray, List.map_cons, List.map_nil]); first | done | rfl | (simp only [List.length_drop, List.length_take]; rfl)) ?_
      with_reducible refine (XOf.calls _ _ y291 t294 _ ?side1 ?side2 A4.out).mono ?_
      (case side1 => repeat (first | exact (Kd.R_reads' HO293.out).2.2 | (with_reducible refine Kd.C_alloc ?_ _) | (with_reducible refine Kd.C_drewN ?_ _) | (with_reducible refine Kd.C_drew ?_)))
      (case side2 => exact (Kd.R_reads' HO293.out).2.1)
      rintro e w20 ⟨v295, rfl, ho0, hb⟩
      refine ⟨_, rfl, ?_⟩
      have n0_ := Aside0.mk (Kd.R_elder' (by (with_reducible repeat (first | apply Kd.R_alloc | apply Kd.R_drewN | apply Kd.R_drew)); exact HO293.out) (Kd.R_base ho0) hb)
      have n1_ := Aside0.mk (Kd.R_lower (Kd.R_new' ho0 (Kd.R_lt (by (with_reducible repeat (first | apply Kd.R_alloc | apply Kd.R_drewN | apply Kd.R_drew)); exact HO293.out))) (below_size (by repeat (first | (with_reducible first | exact HB.out | apply ba_ | apply bn_ | apply bd_ | refine below_set ?_ GE290.out) | exact HB.out))))
      have n2_ := Aside0.mk (blk_below (g := gb290) (o := .cells #[.int .i64 1, .int .u64 (Go.bits .or .u64 (Go.bits .or .u64 t287 t288) t289), .int .u64 0, .int .u64 0, .int .u64 0] 29 (0, 0)) (by (with_reducible repeat (first | apply bN_ | apply bD_ | apply bA_)); exact BK290.out) hb)
      have n3_ := Aside0.mk (below_step (by repeat (first | (with_reducible first | exact HB.out | apply ba_ | apply bn_ | apply bd_ | refine below_set ?_ GE290.out) | exact HB.out)) hb)
      clear HO293
      clear BK290
      clear HB
      have HO293 := n0_
      have HO296 := n1_
      have BK290 := n2_
      have HB := n3_
      clear n0_ n1_ n2_ n3_
      (try clear hb)
      (try clear hb2)
      (try clear hk)
      (try clear hi)
      (try clear ho0)
      obtain ⟨Ao21, co21, eo21⟩ := Kd.R_slice HO296.out
      (first | subst eo21 | (injection eo21 with f1_ f2_ f3_; have f4_ := f1_.symm; have f5_ := f3_.symm; clear f1_ f2_ f3_; subst f4_; subst f5_))
      refine hK.out _ _ ⟨(blk_cell BK290.out 0).trans rfl, (blk_cell BK290.out 1).trans rfl, (blk_cell BK290.out 2).trans rfl, (blk_cell BK290.out 3).trans rfl, (blk_cell BK290.out 4).trans rfl⟩ (fun hHeld => ?_)
      clear hK K
      refine norm_ (a' := ?_) ?_ ?_
      rotate_left
      ·
       show Act.put _ (some 20) _ = _
       simp only [Act.put, List.setIfInBounds_toArray, List.set_cons_zero, List.set_cons_succ, i64_w, i32_w]
       rfl
      refine one_ (i := 6) (N := some 21) #[true, true, true, true, true, true, true, false, false, false, false, false] rfl rfl (one_of HT_.out (by kernel_rfl)) (by decide) (fun K hK => ?_)
      refine goes_ Tryd.func24 (by kernel_rfl) rfl #[.agg #[.int .i64 1, .int .u64 (Go.bits .or .u64 (Go.bits .or .u64 t287 t288) t289), .int .u64 0, .int .u64 0, .int .u64 0], .slice Ao21 t294.length co21] (by rfl) rfl rfl (by (try simp only [List.map_toArray, List.map_cons, List.map_nil]); first | done | rfl | (simp only [List.length_drop, List.length_take]; rfl)) ?_
      with_reducible refine (XStep.calls 1 (Go.bits .or .u64 (Go.bits .or .u64 t287 t288) t289) 0 0 0 _ _ t294 t297 none _ ?side1 ?side2 ?side3 A5.out).mono ?_
      (case side1 => exact HGSix.out.below (by repeat (first | (with_reducible first | exact HB.out | apply ba_ | apply bn_ | apply bd_ | refine below_set ?_ GE290.out) | exact HB.out)))
      (case side2 => repeat (first | exact (Kd.R_reads' HO296.out).2.2 | (with_reducible refine Kd.C_alloc ?_ _) | (with_reducible refine Kd.C_drewN ?_ _) | (with_reducible refine Kd.C_drew ?_)))
      (case side3 => exact (Kd.R_reads' HO296.out).2.1)
      rintro e w22 ⟨v298, rfl, ho0, hb⟩
      refine ⟨_, rfl, ?_⟩
      have n0_ := Aside0.mk (Kd.R_elder' (by (with_reducible repeat (first | apply Kd.R_alloc | apply Kd.R_drewN | apply Kd.R_drew)); exact HO293.out) (Kd.R_base ho0) hb)
      have n1_ := Aside0.mk (Kd.R_elder' (by (with_reducible repeat (first | apply Kd.R_alloc | apply Kd.R_drewN | apply Kd.R_drew)); exact HO296.out) (Kd.R_base ho0) hb)
      have n2_ := Aside0.mk (Kd.R_lower (Kd.R_new' (Kd.R_new' ho0 (Kd.R_lt (by (with_reducible repeat (first | apply Kd.R_alloc | apply Kd.R_drewN | apply Kd.R_drew)); exact HO293.out))) (Kd.R_lt (by (with_reducible repeat (first | apply Kd.R_alloc | apply Kd.R_drewN | apply Kd.R_drew)); exact HO296.out))) (below_size (by repeat (first | (with_reducible first | exact HB.out | apply ba_ | apply bn_ | apply bd_ | refine below_set ?_ GE290.out) | exact HB.out))))
      have n3_ := Aside0.mk (blk_below (g := gb290) (o := .cells #[.int .i64 1, .int .u64 (Go.bits .or .u64 (Go.bits .or .u64 t287 t288) t289), .int .u64 0, .int .u64 0, .int .u64 0] 29 (0, 0)) (by (with_reducible repeat (first | apply bN_ | apply bD_ | apply bA_)); exact BK290.out) hb)
      have n4_ := Aside0.mk (below_step (by repeat (first | (with_reducible first | exact HB.out | apply ba_ | apply bn_ | apply bd_ | refine below_set ?_ GE290.out) | exact HB.out)) hb)
      clear HO293
      clear HO296
      clear BK290
      clear HB
      have HO293 := n0_
      have HO296 := n1_
      have HO299 := n2_
      have BK290 := n3_
      have HB := n4_
      clear n0_ n1_ n2_ n3_ n4_
      (try clear hb)
      (try clear hb2)
      (try clear hk)
      (try clear hi)
      (try clear ho0)
      (try simp only [errW_none, errW_some])
      refine hK.out _ _ ⟨(blk_cell BK290.out 0).trans rfl, (blk_cell BK290.out 1).trans rfl, (blk_cell BK290.out 2).trans rfl, (blk_cell BK290.out 3).trans rfl, (blk_cell BK290.out 4).trans rfl⟩ (fun hHeld => ?_)
      clear hK K
      refine norm_ (a' := ?_) ?_ ?_
      rotate_left
      ·
       show Act.put _ (some 21) _ = _
       simp only [Act.put, List.setIfInBounds_toArray, List.set_cons_zero, List.set_cons_succ, i64_w, i32_w]
       rfl
      refine pure_ (i := 7) (N := some 14) (v := ?_) (a' := ?_) #[true, true, true, true, true, true, true, true, false, false, false, false] rfl rfl (any_of HT_.out (by kernel_rfl)) (fun _ _ _ h => h) (Or.inl ⟨by rfl, ?_⟩) ?_ ?_
      rotate_left
      ·
       intro w'
       go_simp
       with_reducible rfl
      rotate_left
      ·
       simp only [Act.put, List.setIfInBounds_toArray, List.set_cons_zero, List.set_cons_succ, i64_w, i32_w]
       rfl
      refine pure_ (i := 8) (N := some 22) (v := ?_) (a' := ?_) #[true, true, true, true, true, true, true, true, true, false, false, false] rfl rfl (any_of HT_.out (by kernel_rfl)) (fun _ _ _ h => h) (Or.inl ⟨by rfl, ?_⟩) ?_ ?_
      rotate_left
      ·
       intro w'
       go_simp
       with_reducible rfl
      rotate_left
      ·
       simp only [Act.put, List.setIfInBounds_toArray, List.set_cons_zero, List.set_cons_succ, i64_w, i32_w]
       rfl
      refine pure_ (i := 9) (N := some 23) (v := ?_) (a' := ?_) #[true, true, true, true, true, true, true, true, true, true, false, false] rfl rfl (any_of HT_.out (by kernel_rfl)) (fun _ _ _ h => h) (Or.inl ⟨by rfl, ?_⟩) ?_ ?_
      rotate_left
      ·
       intro w'
       go_simp
       with_reducible rfl
      rotate_left
      ·
       simp only [Act.put, List.setIfInBounds_toArray, List.set_cons_zero, List.set_cons_succ, i64_w, i32_w]
       rfl
      refine pure_ (i := 10) (N := some 2) (v := ?_) (a' := ?_) #[true, true, true, true, true, true, true, true, true, true, true, false] rfl rfl (any_of HT_.out (by kernel_rfl)) (fun _ _ _ h => h) (Or.inl ⟨by rfl, ?_⟩) ?_ ?_
      rotate_left
      ·
       intro w'
       go_simp
       with_reducible rfl
      rotate_left
      ·
       simp only [Act.put, List.setIfInBounds_toArray, List.set_cons_zero, List.set_cons_succ, i64_w, i32_w]
       rfl
      refine pure_ (i := 11) (N := some 3) (v := ?_) (a' := ?_) #[true, true, true, true, true, true, true, true, true, true, true, true] rfl rfl (any_of HT_.out (by kernel_rfl)) (fun _ _ _ h => h) (Or.inl ⟨by rfl, ?_⟩) ?_ ?_
      rotate_left
      ·
       intro w'
       go_simp
       with_reducible rfl
      rotate_left
      ·
       simp only [Act.put, List.setIfInBounds_toArray, List.set_cons_zero, List.set_cons_succ, i64_w, i32_w]
       rfl
      refine done_ (done_of HT_.out (by kernel_rfl)) ?_
      obtain ⟨Ao23, co23, eo23⟩ := Kd.R_slice HO299.out
      subst eo23
      have p302 : 0 ≤ (0 : Int) := (by omega)
      have q302 : 0 < (t297.length : Int) := of_decide_eq_true (by first | (with_reducible assumption) | assumption)
      obtain ⟨ad302, e302, hx302_0, hx302_1, hx302_2⟩ := at_T65 (Kd.R_reads' HO299.out).2.2 0 p302 q302
      cases e302
      have qi302 : (0 < t297.length) = True := eq_true (by omega)
      (try rw [show ((0 : Int)).toNat = 0 from rfl] at hx302_0)
      (try rw [show 0 * 3 = 0 from rfl] at hx302_0)
      (try rw [Addr.add_zero'] at hx302_0)
      (try rw [show ((0 : Int)).toNat = 0 from rfl] at hx302_1)
      (try rw [show 0 * 3 = 0 from rfl] at hx302_1)
      (try rw [Addr.add_zero'] at hx302_1)
      (try rw [show ((0 : Int)).toNat = 0 from rfl] at hx302_2)
      (try rw [show 0 * 3 = 0 from rfl] at hx302_2)
      (try rw [Addr.add_zero'] at hx302_2)
      replace p302 := eq_true p302
      replace q302 := eq_true q302
      have p303 : 0 ≤ (1 : Int) := (by omega)
      have q303 : 1 < (t297.length : Int) := of_decide_eq_true (by first | (with_reducible assumption) | assumption)
      obtain ⟨ad303, e303, hx303_0, hx303_1, hx303_2⟩ := at_T65 (Kd.R_reads' HO299.out).2.2 1 p303 q303
      obtain rfl : ad302 = ad303 := (by injection e303)
      (try simp only [show (1 : Int).toNat = 1 from rfl, Nat.reduceMul, Nat.reduceEqDiff, Go.Addr.add, ↓reduceIte] at hx303_0)
      (try simp only [show (1 : Int).toNat = 1 from rfl, Nat.reduceMul, Nat.reduceEqDiff, Go.Addr.add, ↓reduceIte] at hx303_1)
      (try simp only [show (1 : Int).toNat = 1 from rfl, Nat.reduceMul, Nat.reduceEqDiff, Go.Addr.add, ↓reduceIte] at hx303_2)
      have qi303 : (1 < t297.length) = True := eq_true (by omega)
      (try rw [show ((1 : Int)).toNat = 1 from rfl] at hx303_0)
      (try rw [show 1 * 3 = 3 from rfl] at hx303_0)
      (try rw [show ((1 : Int)).toNat = 1 from rfl] at hx303_1)
      (try rw [show 1 * 3 = 3 from rfl] at hx303_1)
      (try rw [show ((1 : Int)).toNat = 1 from rfl] at hx303_2)
      (try rw [show 1 * 3 = 3 from rfl] at hx303_2)
      replace p303 := eq_true p303
      replace q303 := eq_true q303
      try go_wp2
      go_ret
      exact ⟨by first | rfl | (simp [errW_none, errW_some] <;> rfl) | (simp [*, errW_none, errW_some] <;> rfl), by repeat (first | (with_reducible first | exact HB.out | apply ba_ | apply bn_ | apply bd_ | refine below_set ?_ GE290.out) | exact HB.out)⟩
     ·
      rw [if_neg c9] at H
      exact absurd H (by simp)
    ·
     rw [if_neg c8] at H
     have c8b0 : ((((rd_T65 t297 0).f0.f0) == 1 && (((rd_T65 t297 0).f0.f1) == (-1))) && (((rd_T65 t297 0).f1) == 0)) = false := by simpa using c8
     clear c8
     exact absurd ((Option.some.inj H).trans Hr_.out) (by decide)
   ·
    rw [if_neg c7] at H
    exact absurd H (by simp)
  ·
   rw [if_neg c6] at H
   have c6b0 : ((t297.length : Int) == 2) = false := beq_eq_false_iff_ne.mpr c6
   have c6b1 : ((t297.length : Int) != 2) = true := bne_iff_ne.mpr c6
   exact absurd ((Option.some.inj H).trans Hr_.out) (by decide)
 ·
  have H1 : (some false) = some r := by rw [if_neg (show ¬ (some q301).isNone = true by simp)] at H; exact H
  clear H
  have H := H1
  clear H1
  try simp only [errW_none, errW_some]
  exact absurd ((Option.some.inj H).trans Hr_.out) (by decide)
end Go.Proofs.YtaeenefdbahfoaaDoor.H
namespace Go.Proofs.YtaeenefdbahfoaaDoor
set_option linter.unusedSimpArgs false
set_option linter.unusedVariables false
open Go.RowKit Go.Proofs.YtaeenefdbahfoaaDoorW.PrintWords Go.Proofs.YtaeenefdbahfoaaDoorW.PrintLast Go.Proofs.YtaeenefdbahfoaaDoorW.PrintMore
open H
open Go.RowKit
theorem ring_o : table_Rings.f 150 2 111 = some 281483583426632 := by decide +kernel
theorem ring_m : table_Rings.f 150 2 109 = some 1116692677664 := by decide +kernel
theorem ring_p : table_Rings.f 150 2 112 = some 68719739392 := by decide +kernel
theorem ring_all : Go.bits .or .u64 (Go.bits .or .u64 281483583426632 1116692677664) 68719739392 = 282668995843688 := by decide +kernel
def awS : List CL := [(⟨(⟨0, 0⟩ : S63), 0⟩ : CL), (⟨(⟨1, 0⟩ : S63), 0⟩ : CL)]
def awT : List CL := [(⟨(⟨1, -1⟩ : S63), 0⟩ : CL), (⟨(⟨0, 1⟩ : S63), 0⟩ : CL)]
theorem awS_srt : Srt awS := by decide
theorem awT_srt : Srt awT := by decide
theorem awT_sub : ∀ x ∈ awT, x ∈ nextRaw (nxtV 282668995843688 0 0 0) 1 awS := by decide +kernel
theorem awT_sup : ∀ x ∈ nextRaw (nxtV 282668995843688 0 0 0) 1 awS, x ∈ awT := by decide +kernel
theorem aw_next : nextL (nxtV 282668995843688 0 0 0) 1 awS = awT := srt_ext (ofL_srt _) awT_srt (fun x => by unfold nextL; rw [ofL_mem]; exact ⟨awT_sup x, awT_sub x⟩)
theorem aw_step : XStep.f 1 282668995843688 0 0 0 awS = some (awT, none) := by
  unfold XStep.f
  rw [if_pos ⟨by decide, by decide +kernel, awS_srt, by decide +kernel⟩, aw_next]
theorem awake8_f (K : Nat) (hK : 150 ≤ K) : honeycomblaw08_awake.f K = some true := by
  unfold honeycomblaw08_awake.f
  rw [leO_geG (g := fun k => table_Rings.f k 2 111) (fun k => table_Rings.mono _ _ k) ring_o K hK, leO_geG (g := fun k => table_Rings.f k 2 109) (fun k => table_Rings.mono _ _ k) ring_m K hK, leO_geG (g := fun k => table_Rings.f k 2 112) (fun k => table_Rings.mono _ _ k) ring_p K hK]
  simp only [Option.bind_some]
  rw [ring_all]
  have h1 : XOf.f [(⟨(⟨0, 0⟩ : S63), 0⟩ : CL), (⟨(⟨1, 0⟩ : S63), 0⟩ : CL)] = some awS := XOf_srt awS_srt (by decide)
  rw [h1]
  simp only [Option.bind_some]
  rw [aw_step]
  decide
end Go.Proofs.YtaeenefdbahfoaaDoor
namespace Go.Proofs.YtaeenefdbahfoaaDoor.H
open Go.RowKit Go.Proofs.YtaeenefdbahfoaaDoorW.PrintWords Go.Proofs.YtaeenefdbahfoaaDoorW.PrintLast Go.Proofs.YtaeenefdbahfoaaDoorW.PrintMore
attribute [local go_sem] max2_int min2_int max_two min_two max_three min_three max_four min_four   -- for this text's walks alone
set_option linter.unusedVariables false
set_option linter.unusedSimpArgs false
def honeycombref05_bit.l0 : Nat → Int → Int → Int → Option (Int)
 | 0, _, _, _ => none
 | k + 1, x0, x1, x5 => if x5 < x1 then (honeycombref05_bit.l0 k (IntKind.u64.wrap (Int.tdiv x0 2)) x1 (wrap64 (x5 + 1))) else (some (wrap64 (Int.tmod x0 2)))
def honeycombref05_bit.f (k : Nat) (a0 : Int) (a1 : Int) : Option (Int) := honeycombref05_bit.l0 k a0 a1 0
set_option maxHeartbeats 8000000 in
set_option maxRecDepth 100000 in
theorem honeycombref05_bit.calls (k : Nat) (a0 : Int) (a1 : Int) (r : Int) (w : World) (h : honeycombref05_bit.f k a0 a1 = some r) :
  Calls Tryd.prog 69 #[.int .u64 a0, .int .i64 a1] w fun e w' => e = .returned (.int .i64 r) ∧ Drawn0 w w' := by
 have H : (honeycombref05_bit.l0 k a0 a1 0) = some r := h
 clear h
 have H' := Aside0.mk H
 clear H
 go_enter Tryd.func69, Tryd.ntmps69
 go_wp2
 go_loopg [0, 5] k (fun kq v0 v5 w' => ∃ (x0_1 : Int) (x5_1 : Int), v0 = .int .u64 x0_1 ∧ v5 = .int .i64 x5_1 ∧ Aside0 (honeycombref05_bit.l0 kq x0_1 a1 x5_1 = some r) ∧ Aside0 (kq ≤ k) ∧ Drawn0 w w')
 case atStart => exact ⟨(a0), (0), (by first | rfl | (simp; done) | (simp [*]; done)), (by first | rfl | (simp; done) | (simp [*]; done)), H', ⟨Nat.le_refl _⟩, by repeat (first | exact Drawn0.refl _ | apply Drawn0.step)⟩
 case round =>
  clear H'
  try clear p2
  obtain ⟨x0_1, x5_1, rfl, rfl, HA, HK1, ⟨m1, rfl⟩⟩ := hrel
  cases gk with
  | zero => exact absurd HA.out (by simp [honeycombref05_bit.l0])
  | succ k1 =>
   have H := HA.out
   clear HA
   simp only [honeycombref05_bit.l0] at H
   by_cases c3 : x5_1 < a1
   ·
    rw [if_pos c3] at H
    have c3b0 : decide (x5_1 < a1) = true := decide_eq_true c3
    clear c3
    have H' := Aside0.mk H
    clear H
    go_wp2
    go_roundg k1
    case measure => have := HK1.out; omega
    case rel => exact ⟨(IntKind.u64.wrap (Int.tdiv x0_1 2)), (wrap64 (x5_1 + 1)), (by first | rfl | (simp; done) | (simp [*]; done)), (by first | rfl | (simp; done) | (simp [*]; done)), H', ⟨by have := HK1.out; omega⟩, by repeat (first | exact Drawn0.refl _ | apply Drawn0.step)⟩
   ·
    rw [if_neg c3] at H
    have c3b0 : decide (x5_1 < a1) = false := decide_eq_false c3
    clear c3
    obtain rfl := Option.some.inj H
    go_wp2
    go_ret
    exact ⟨by first | rfl | (simp; done) | (simp [*]; done), by repeat (first | exact Drawn0.refl _ | apply Drawn0.step)⟩
end Go.Proofs.YtaeenefdbahfoaaDoor.H
namespace Go.Proofs.YtaeenefdbahfoaaDoor.H
open Go.RowKit Go.Proofs.YtaeenefdbahfoaaDoorW.PrintWords Go.Proofs.YtaeenefdbahfoaaDoorW.PrintLast Go.Proofs.YtaeenefdbahfoaaDoorW.PrintMore
attribute [local go_sem] max2_int min2_int max_two min_two max_three min_three max_four min_four   -- for this text's walks alone
set_option linter.unusedVariables false
set_option linter.unusedSimpArgs false
def honeycombref05_Next.j0 : Nat → Int → Bool → Int → Bool → Int → List Int → List Int → Option (Bool)
 | 0, _, _, _, _, _, _, _ => none
 | k + 1, x1, x2, x3, x22, x373000, x373001, x373002 => if x22 = true then (some false) else (if x2 = true then (if 0 ≤ x1 then (if x1 < (x373002.length : Int) then ((honeycombref05_bit.f k (rd x373002 x1) x3).bind fun t374 => (some (t374 == 1))) else (none)) else (none)) else (if 0 ≤ x1 then (if x1 < (x373001.length : Int) then ((honeycombref05_bit.f k (rd x373001 x1) x3).bind fun t376 => (some (t376 == 1))) else (none)) else (none)))
def honeycombref05_Next.f (k : Nat) (a0_0 : Int) (l0_1 : List Int) (l0_2 : List Int) (a1 : Int) (a2 : Bool) (a3 : Int) : Option (Bool) := if a1 < 0 then (honeycombref05_Next.j0 k a1 a2 a3 true a0_0 l0_1 l0_2) else (if a1 > 1 then (honeycombref05_Next.j0 k a1 a2 a3 true a0_0 l0_1 l0_2) else (if a3 < 0 then (honeycombref05_Next.j0 k a1 a2 a3 true a0_0 l0_1 l0_2) else (honeycombref05_Next.j0 k a1 a2 a3 (decide (a3 > 63)) a0_0 l0_1 l0_2)))
set_option maxHeartbeats 8000000 in
set_option maxRecDepth 100000 in
theorem honeycombref05_Next.calls (k : Nat) (a0_0 : Int) (A0_1 : Option Addr) (c0_1 : Nat) (l0_1 : List Int) (A0_2 : Option Addr) (c0_2 : Nat) (l0_2 : List Int) (a1 : Int) (a2 : Bool) (a3 : Int) (r : Bool) (w : World) (hr0_1 : Kd.C (Kd.int .u64) w A0_1 l0_1.length l0_1) (hc0_1 : l0_1.length ≤ c0_1) (hr0_2 : Kd.C (Kd.int .u64) w A0_2 l0_2.length l0_2) (hc0_2 : l0_2.length ≤ c0_2) (h : honeycombref05_Next.f k a0_0 l0_1 l0_2 a1 a2 a3 = some r) :
  Calls Tryd.prog 35 #[.agg #[.int .i64 a0_0, .slice A0_1 l0_1.length c0_1, .slice A0_2 l0_2.length c0_2], .int .i64 a1, .bool a2, .int .i64 a3] w fun e w' => e = .returned (.bool r) ∧ Below w.heap.size w w' := by
 have hu55 := Tryd.underlying55
 have HR0_1 := Aside0.mk hr0_1
 have HC0_1 := Aside0.mk hc0_1
 clear hr0_1 hc0_1
 have HR0_2 := Aside0.mk hr0_2
 have HC0_2 := Aside0.mk hc0_2
 clear hr0_2 hc0_2
 have HB := Aside0.mk (Below.refl w.heap.size w)
 have H : (if a1 < 0 then (honeycombref05_Next.j0 k a1 a2 a3 true a0_0 l0_1 l0_2) else (if a1 > 1 then (honeycombref05_Next.j0 k a1 a2 a3 true a0_0 l0_1 l0_2) else (if a3 < 0 then (honeycombref05_Next.j0 k a1 a2 a3 true a0_0 l0_1 l0_2) else (honeycombref05_Next.j0 k a1 a2 a3 (decide (a3 > 63)) a0_0 l0_1 l0_2)))) = some r := h
 clear h
 have HC5 := Aside0.mk H
 clear H
 go_enter Tryd.func35, Tryd.ntmps35
 go_upto_region 1 with (first | ((with_reducible refine gate_dst (N := 4) rfl ?_); refine box_event ?hg (N := 4) ?hd (cs := #[.int .i64 a0_0, .slice A0_1 l0_1.length c0_1, .slice A0_2 l0_2.length c0_2]) (t := 55) ?hr ?_; (case hd => rfl); (case hg => rfl); (case hr => first | (go_simp; done) | (go_simp; rfl)); intro gb372 hg w6 hbox hb; have n0_ := Aside0.mk (below_step (by repeat (first | (with_reducible first | exact HB.out | apply ba_ | apply bn_ | apply bd_) | exact HB.out)) hb); have n1_ := Aside0.mk (hbox); have n2_ := Aside0.mk ((by rw [hg]; exact (below_size (by repeat (first | (with_reducible first | exact HB.out | apply ba_ | apply bn_ | apply bd_) | exact HB.out))) : w.heap.size ≤ gb372)); have n3_ := Aside0.mk ((by rw [hg]; exact (below_size (by repeat (first | (with_reducible first | exact HB.out | apply ba_ | apply bn_ | apply bd_) | exact HB.out))) : w.heap.size ≤ gb372)); clear HB; have HB := n0_; have BK372 := n1_; have GW372 := n2_; have GE372 := n3_; clear n0_ n1_ n2_ n3_; clear hb hbox hg))
 (try simp only [Act.put, List.setIfInBounds_toArray, List.set_cons_zero, List.set_cons_succ])
 go_cut [22] (fun v22 wc => ∃ (kq : Nat) (x22_4 : Bool), v22 = .bool x22_4 ∧ Aside0 (honeycombref05_Next.j0 kq a1 a2 a3 x22_4 a0_0 l0_1 l0_2 = some r) ∧ Aside0 (kq ≤ k) ∧ Aside0 (wc.heap[gb372]? = some (.cells #[.int .i64 a0_0, (.slice A0_1 l0_1.length c0_1), (.slice A0_2 l0_2.length c0_2)] 55 (0, 0))) ∧ Aside0 (Below w.heap.size w wc))
 case first =>
  have H := HC5.out
  clear HC5
  by_cases c7 : a1 < 0
  ·
   rw [if_pos c7] at H
   have c7b0 : decide (a1 < 0) = true := decide_eq_true c7
   clear c7
   (first | rw [c7b0] | (simp only [i64_w, i32_w]; rw [c7b0]) | skip)
   have H' := Aside0.mk H
   clear H
   go_wp2
   go_meet
   case rel => exact ⟨_, (true), (by first | rfl | (simp; done) | (simp [*]; done)), H', ⟨by first | omega | exact Nat.le_refl _⟩, ⟨by (with_reducible repeat (first | apply bN_ | apply bD_ | apply bA_)); exact BK372.out⟩, ⟨by repeat (first | (with_reducible first | exact HB.out | apply ba_ | apply bn_ | apply bd_ | refine below_set ?_ GE372.out) | exact HB.out)⟩⟩
  ·
   rw [if_neg c7] at H
   have c7b0 : decide (a1 < 0) = false := decide_eq_false c7
   clear c7
   (first | rw [c7b0] | (simp only [i64_w, i32_w]; rw [c7b0]) | skip)
   by_cases c8 : a1 > 1
   ·
    rw [if_pos c8] at H
    have c8b0 : decide (1 < a1) = true := decide_eq_true c8
    clear c8
    have H' := Aside0.mk H
    clear H
    go_wp2
    go_meet
    case rel => exact ⟨_, (true), (by first | rfl | (simp; done) | (simp [*]; done)), H', ⟨by first | omega | exact Nat.le_refl _⟩, ⟨by (with_reducible repeat (first | apply bN_ | apply bD_ | apply bA_)); exact BK372.out⟩, ⟨by repeat (first | (with_reducible first | exact HB.out | apply ba_ | apply bn_ | apply bd_ | refine below_set ?_ GE372.out) | exact HB.out)⟩⟩
   ·
    rw [if_neg c8] at H
    have c8b0 : decide (1 < a1) = false := decide_eq_false c8
    clear c8
    by_cases c9 : a3 < 0
    ·
     rw [if_pos c9] at H
     have c9b0 : decide (a3 < 0) = true := decide_eq_true c9
     clear c9
     have H' := Aside0.mk H
     clear H
     go_wp2
     go_meet
     case rel => exact ⟨_, (true), (by first | rfl | (simp; done) | (simp [*]; done)), H', ⟨by first | omega | exact Nat.le_refl _⟩, ⟨by (with_reducible repeat (first | apply bN_ | apply bD_ | apply bA_)); exact BK372.out⟩, ⟨by repeat (first | (with_reducible first | exact HB.out | apply ba_ | apply bn_ | apply bd_ | refine below_set ?_ GE372.out) | exact HB.out)⟩⟩
    ·
     rw [if_neg c9] at H
     have c9b0 : decide (a3 < 0) = false := decide_eq_false c9
     clear c9
     have H' := Aside0.mk H
     clear H
     go_wp2
     go_meet
     case rel => exact ⟨_, (decide (a3 > 63)), (by first | rfl | (simp; done) | (simp [*]; done)), H', ⟨by first | omega | exact Nat.le_refl _⟩, ⟨by (with_reducible repeat (first | apply bN_ | apply bD_ | apply bA_)); exact BK372.out⟩, ⟨by repeat (first | (with_reducible first | exact HB.out | apply ba_ | apply bn_ | apply bd_ | refine below_set ?_ GE372.out) | exact HB.out)⟩⟩
 case rest =>
  clear HC5
  try clear p2
  try clear c3
  try clear c7
  try clear c7b0
  try clear c8
  try clear c8b0
  try clear c9
  try clear c9b0
  obtain ⟨kq, x22_4, rfl, HA, HJ4, BK372, HB⟩ := hcut
  cases kq with
  | zero => exact absurd HA.out (by simp [honeycombref05_Next.j0])
  | succ kj4 =>
   have H := HA.out
   clear HA
   simp only [honeycombref05_Next.j0] at H
   by_cases c10 : x22_4 = true
   ·
    subst c10
    have H1 : (some false) = some r := by rw [if_pos rfl] at H; exact H
    clear H
    have H := H1
    clear H1
    obtain rfl := Option.some.inj H
    go_wp2
    go_ret
    exact ⟨by first | rfl | (simp [errW_none, errW_some] <;> rfl) | (simp [*, errW_none, errW_some] <;> rfl), by repeat (first | (with_reducible first | exact HB.out | apply ba_ | apply bn_ | apply bd_ | refine below_set ?_ GE372.out) | exact HB.out)⟩
   ·
    replace c10 := Bool.eq_false_iff.mpr c10
    subst c10
    have H1 : (if a2 = true then (if 0 ≤ a1 then (if a1 < (l0_2.length : Int) then ((honeycombref05_bit.f kj4 (rd l0_2 a1) a3).bind fun t374 => (some (t374 == 1))) else (none)) else (none)) else (if 0 ≤ a1 then (if a1 < (l0_1.length : Int) then ((honeycombref05_bit.f kj4 (rd l0_1 a1) a3).bind fun t376 => (some (t376 == 1))) else (none)) else (none))) = some r := by rw [if_neg (show ¬ (false = true) by decide)] at H; exact H
    clear H
    have H := H1
    clear H1
    by_cases c11 : a2 = true
    ·
     subst c11
     have H1 : (if 0 ≤ a1 then (if a1 < (l0_2.length : Int) then ((honeycombref05_bit.f kj4 (rd l0_2 a1) a3).bind fun t374 => (some (t374 == 1))) else (none)) else (none)) = some r := by rw [if_pos rfl] at H; exact H
     clear H
     have H := H1
     clear H1
     by_cases c12 : 0 ≤ a1
     ·
      rw [if_pos c12] at H
      have c12b0 : decide (0 ≤ a1) = true := decide_eq_true c12
      clear c12
      by_cases c13 : a1 < (l0_2.length : Int)
      ·
       rw [if_pos c13] at H
       have c13b0 : decide (a1 < (l0_2.length : Int)) = true := decide_eq_true c13
       clear c13
       replace H := Option.bind_eq_some_iff.mp H
       obtain ⟨t374, A140, H⟩ := H
       replace H : (some (t374 == 1)) = some r := H
       have A14 := Aside0.mk A140
       clear A140
       obtain rfl := Option.some.inj H
       have hcz15_0 : wc.cell? ⟨gb372, 0, none⟩ = some (.int .i64 a0_0) := (blk_cell BK372.out 0).trans rfl
       have hcz15_1 : wc.cell? ⟨gb372, 1, none⟩ = some (.slice A0_1 l0_1.length c0_1) := (blk_cell BK372.out 1).trans rfl
       have hcz15_2 : wc.cell? ⟨gb372, 2, none⟩ = some (.slice A0_2 l0_2.length c0_2) := (blk_cell BK372.out 2).trans rfl
       have hfz15_0 := blk_frozen BK372.out 0
       have hfz15_1 := blk_frozen BK372.out 1
       have hfz15_2 := blk_frozen BK372.out 2
       have p373 : 0 ≤ (a1 : Int) := of_decide_eq_true (by first | (with_reducible assumption) | assumption)
       have q373 : a1 < (l0_2.length : Int) := of_decide_eq_true (by first | (with_reducible assumption) | assumption)
       obtain ⟨ad373, e373, hx373_0⟩ := Kd.at_int HR0_2.out a1 p373 q373
       cases e373
       try replace hx373_0 := (HB.out.cell (World.block_lt_of_cell? w _ hx373_0)).trans hx373_0
       replace p373 := eq_true p373
       replace q373 := eq_true q373
       go_wp2_with (first | ((with_reducible refine gate_callee (f := 69) rfl ?_); refine goesL_ (some 30) rfl rfl Tryd.func69 (by kernel_rfl) rfl #[.int .u64 (rd l0_2 a1), .int .i64 a3] rfl (by (try simp only [List.map_toArray, List.map_cons, List.map_nil]); first | done | rfl | (simp only [List.length_drop, List.length_take]; rfl)) ?_; (with_reducible refine (honeycombref05_bit.calls kj4 (rd l0_2 a1) a3 t374 _ A14.out).mono ?_); rintro e w' ⟨rfl, ⟨nd, rfl⟩⟩; refine ⟨_, rfl, ?_⟩))
       go_ret
       exact ⟨by first | rfl | (simp [errW_none, errW_some] <;> rfl) | (simp [*, errW_none, errW_some] <;> rfl), by repeat (first | (with_reducible first | exact HB.out | apply ba_ | apply bn_ | apply bd_ | refine below_set ?_ GE372.out) | exact HB.out)⟩
      ·
       rw [if_neg c13] at H
       exact absurd H (by simp)
     ·
      rw [if_neg c12] at H
      exact absurd H (by simp)
    ·
     replace c11 := Bool.eq_false_iff.mpr c11
     subst c11
     have H1 : (if 0 ≤ a1 then (if a1 < (l0_1.length : Int) then ((honeycombref05_bit.f kj4 (rd l0_1 a1) a3).bind fun t376 => (some (t376 == 1))) else (none)) else (none)) = some r := by rw [if_neg (show ¬ (false = true) by decide)] at H; exact H
     clear H
     have H := H1
     clear H1
     by_cases c16 : 0 ≤ a1
     ·
      rw [if_pos c16] at H
      have c16b0 : decide (0 ≤ a1) = true := decide_eq_true c16
      clear c16
      by_cases c17 : a1 < (l0_1.length : Int)
      ·
       rw [if_pos c17] at H
       have c17b0 : decide (a1 < (l0_1.length : Int)) = true := decide_eq_true c17
       clear c17
       replace H := Option.bind_eq_some_iff.mp H
       obtain ⟨t376, A180, H⟩ := H
       replace H : (some (t376 == 1)) = some r := H
       have A18 := Aside0.mk A180
       clear A180
       obtain rfl := Option.some.inj H
       have hcz19_0 : wc.cell? ⟨gb372, 0, none⟩ = some (.int .i64 a0_0) := (blk_cell BK372.out 0).trans rfl
       have hcz19_1 : wc.cell? ⟨gb372, 1, none⟩ = some (.slice A0_1 l0_1.length c0_1) := (blk_cell BK372.out 1).trans rfl
       have hcz19_2 : wc.cell? ⟨gb372, 2, none⟩ = some (.slice A0_2 l0_2.length c0_2) := (blk_cell BK372.out 2).trans rfl
       have hfz19_0 := blk_frozen BK372.out 0
       have hfz19_1 := blk_frozen BK372.out 1
       have hfz19_2 := blk_frozen BK372.out 2
       have p375 : 0 ≤ (a1 : Int) := of_decide_eq_true (by first | (with_reducible assumption) | assumption)
       have q375 : a1 < (l0_1.length : Int) := of_decide_eq_true (by first | (with_reducible assumption) | assumption)
       obtain ⟨ad375, e375, hx375_0⟩ := Kd.at_int HR0_1.out a1 p375 q375
       cases e375
       try replace hx375_0 := (HB.out.cell (World.block_lt_of_cell? w _ hx375_0)).trans hx375_0
       replace p375 := eq_true p375
       replace q375 := eq_true q375
       go_wp2_with (first | ((with_reducible refine gate_callee (f := 69) rfl ?_); refine goesL_ (some 38) rfl rfl Tryd.func69 (by kernel_rfl) rfl #[.int .u64 (rd l0_1 a1), .int .i64 a3] rfl (by (try simp only [List.map_toArray, List.map_cons, List.map_nil]); first | done | rfl | (simp only [List.length_drop, List.length_take]; rfl)) ?_; (with_reducible refine (honeycombref05_bit.calls kj4 (rd l0_1 a1) a3 t376 _ A18.out).mono ?_); rintro e w' ⟨rfl, ⟨nd, rfl⟩⟩; refine ⟨_, rfl, ?_⟩))
       go_ret
       exact ⟨by first | rfl | (simp [errW_none, errW_some] <;> rfl) | (simp [*, errW_none, errW_some] <;> rfl), by repeat (first | (with_reducible first | exact HB.out | apply ba_ | apply bn_ | apply bd_ | refine below_set ?_ GE372.out) | exact HB.out)⟩
      ·
       rw [if_neg c17] at H
       exact absurd H (by simp)
     ·
      rw [if_neg c16] at H
      exact absurd H (by simp)
end Go.Proofs.YtaeenefdbahfoaaDoor.H
namespace Go.Proofs.YtaeenefdbahfoaaDoor
set_option linter.unusedSimpArgs false
set_option linter.unusedVariables false
open Go.RowKit Go.Proofs.YtaeenefdbahfoaaDoorW.PrintWords Go.Proofs.YtaeenefdbahfoaaDoorW.PrintLast Go.Proofs.YtaeenefdbahfoaaDoorW.PrintMore
open H
open Go.RowKit
theorem bit_l0 : ∀ (d k : Nat) (i : Nat) (n : Nat) (x : Nat), i + d = n → n < 1000 → x < 18446744073709551616 → d < k → honeycombref05_bit.l0 k (x : Int) (n : Int) (i : Int) = some (((x / 2 ^ d % 2 : Nat) : Int)) := by
  intro d
  induction d with
  | zero =>
    intro k i n x hi hn hx hk
    obtain ⟨k, rfl⟩ : ∃ m, k = m + 1 := ⟨k - 1, by omega⟩
    simp only [honeycombref05_bit.l0]
    rw [if_neg (by omega), Int.tmod_eq_emod_of_nonneg (by omega)]
    have e : ((x : Int) % 2) = ((x % 2 : Nat) : Int) := by omega
    rw [e, w64i _ (by omega) (by omega), Nat.pow_zero, Nat.div_one]
  | succ d ih =>
    intro k i n x hi hn hx hk
    obtain ⟨k, rfl⟩ : ∃ m, k = m + 1 := ⟨k - 1, by omega⟩
    simp only [honeycombref05_bit.l0]
    have e : Int.tdiv (x : Int) 2 = ((x / 2 : Nat) : Int) := by rw [Int.tdiv_eq_ediv_of_nonneg (by omega)]; omega
    rw [if_pos (by omega), e, u64N _ (by omega), w64i ((i : Int) + 1) (by omega) (by omega)]
    have := ih k (i + 1) n (x / 2) (by omega) hn (by omega) (by omega)
    simp only [Int.natCast_add, Int.cast_ofNat_Int] at this
    rw [this, Nat.div_div_eq_div_mul, ← Nat.pow_succ']
theorem bit_f (K x n : Nat) (hx : x < 18446744073709551616) (hn : n < 64) (hK : 64 ≤ K) : honeycombref05_bit.f K (x : Int) (n : Int) = some (((x / 2 ^ n % 2 : Nat) : Int)) := by
  unfold honeycombref05_bit.f
  have := bit_l0 n K 0 n x (by omega) (by omega) hx (by omega)
  exact this
theorem nxB_is (x n : Nat) (hx : x < 18446744073709551616) : nxB (x : Int) (n : Int) = (((x / 2 ^ n % 2 : Nat) : Int) == 1) := by
  unfold nxB
  have e : (x : Int) / 2 ^ ((n : Nat) : Int).toNat = ((x / 2 ^ n : Nat) : Int) := by simp
  have hlt : x / 2 ^ n < 18446744073709551616 := Nat.lt_of_le_of_lt (Nat.div_le_self _ _) hx
  have := andN (x / 2 ^ n) 1 hlt (by decide)
  rw [show ((1 : Nat) : Int) = 1 from rfl] at this
  rw [e, this, Nat.and_one_is_mod]
theorem rnext_f (K : Nat) (L : Int) (b0 b1 s0 s1 : Nat) (half : Int) (live : Bool) (n : Int) (hb0 : b0 < 18446744073709551616) (hb1 : b1 < 18446744073709551616) (hs0 : s0 < 18446744073709551616) (hs1 : s1 < 18446744073709551616) (hh : half = 0 ∨ half = 1) (h0 : 0 ≤ n) (h1 : n ≤ 63) (hK : 65 ≤ K) :
    honeycombref05_Next.f K L [(b0 : Int), (b1 : Int)] [(s0 : Int), (s1 : Int)] half live n = some (nxtV b0 b1 s0 s1 half live n) := by
  obtain ⟨m, rfl⟩ := Int.eq_ofNat_of_zero_le h0
  obtain ⟨k, rfl⟩ : ∃ k, K = k + 1 := ⟨K - 1, by omega⟩
  have hd : decide ((m : Int) > 63) = false := decide_eq_false (by omega)
  unfold honeycombref05_Next.f nxtV
  rw [if_neg (by omega), if_neg (by omega), if_neg (by omega), if_neg (by omega), hd]
  simp only [honeycombref05_Next.j0]
  rw [if_neg (by decide)]
  rcases hh with rfl | rfl
  · cases live
    · rw [if_neg (by decide), if_pos (by omega), if_pos (by simp), if_neg (by decide), if_pos rfl, show rd [(b0 : Int), (b1 : Int)] 0 = (b0 : Int) from rfl, bit_f k b0 m hb0 (by omega) (by omega), nxB_is b0 m hb0]
      rfl
    · rw [if_pos rfl, if_pos (by omega), if_pos (by simp), if_pos rfl, if_pos rfl, show rd [(s0 : Int), (s1 : Int)] 0 = (s0 : Int) from rfl, bit_f k s0 m hs0 (by omega) (by omega), nxB_is s0 m hs0]
      rfl
  · cases live
    · rw [if_neg (by decide), if_pos (by omega), if_pos (by simp), if_neg (by decide), if_neg (by decide), show rd [(b0 : Int), (b1 : Int)] 1 = (b1 : Int) from rfl, bit_f k b1 m hb1 (by omega) (by omega), nxB_is b1 m hb1]
      rfl
    · rw [if_pos rfl, if_pos (by omega), if_pos (by simp), if_pos rfl, if_neg (by decide), show rd [(s0 : Int), (s1 : Int)] 1 = (s1 : Int) from rfl, bit_f k s1 m hs1 (by omega) (by omega), nxB_is s1 m hs1]
      rfl
end Go.Proofs.YtaeenefdbahfoaaDoor
