/- FlatOne is true for every input, with what its row says of the package variables that it reads. Merged out of our texts: PNear0, PNear, PBeside0, Hhoneycombref05bit, Hhoneycombref05Next, XOne, POne, RowFlatOne. -/
import Derived.Test.YtaeenefdbahfoaaDoorKFlatOne2
import Derived.Test.YtaeenefdbahfoaaDoorKFlatOne8
import Derived.Test.YtaeenefdbahfoaaDoorKFlatOne7
import Derived.Test.YtaeenefdbahfoaaDoorKFlatOne1
import Derived.Test.YtaeenefdbahfoaaDoorKFlatOne4
import Derived.Carry
import Derived.BigRegion
import Derived.Deep.RegionHeld3
import Derived.ChangeOld
import Derived.SizedLaws
import Derived.Test.YtaeenefdbahfoaaDoorCards
namespace Go.Proofs.YtaeenefdbahfoaaDoor
set_option linter.unusedSimpArgs false
set_option linter.unusedVariables false
open Go.RowKit Go.Proofs.YtaeenefdbahfoaaDoorW.PrintWords Go.Proofs.YtaeenefdbahfoaaDoorW.PrintLast Go.Proofs.YtaeenefdbahfoaaDoorW.PrintMore
open H
open Go.RowKit
def eqc (p0 p1 q0 q1 : Int) : Int := if p0 = q0 ∧ p1 = q1 then 1 else 0
theorem eqc_bd (p0 p1 q0 q1 : Int) : 0 ≤ eqc p0 p1 q0 q1 ∧ eqc p0 p1 q0 q1 ≤ 1 := by unfold eqc; split <;> omega
theorem eqc_sh (a b x y u v u' v' : Int) : eqc (a + x) (b + y) (a + u + u') (b + v + v') = eqc x y (u + u') (v + v') := by
  unfold eqc
  by_cases h : x = u + u' ∧ y = v + v'
  · rw [if_pos h, if_pos (by omega)]
  · rw [if_neg h, if_neg (by omega)]
theorem com_at (k : Nat) (n p0 p1 q0 q1 : Int) (C : List (List Int)) (x12 i : Int) (X : List (List Int)) (j : Int) (u v t : Int) (hX : X.length = 3) (h0 : 0 ≤ j) (h1 : j < 3) (hq : rd_L10 X j = [q0, q1]) (hn : 0 ≤ n) (hn' : n ≤ 100) :
    honeycombref03_common.l1 (k + 1) n [p0, p1] C x12 i X 3 j u v t = honeycombref03_common.l1 k (n + eqc p0 p1 q0 q1) [p0, p1] C x12 i X 3 (j + 1) u v t := by
  simp only [honeycombref03_common.l1]
  rw [if_pos h1, if_pos h0, if_pos (by rw [hX]; exact h1), hq, w64i (j + 1) (by omega) (by omega), w64i (n + 1) (by omega) (by omega)]
  unfold eqc
  by_cases e0 : p0 = q0
  · by_cases e1 : p1 = q1
    · simp [rd, e0, e1]
    · simp [rd, e0, e1]
  · simp [rd, e0]
theorem com_row (k : Nat) (n p0 p1 : Int) (C : List (List Int)) (x12 i : Int) (q0 q1 r0 r1 s0 s1 : Int) (u v t : Int) (hn : 0 ≤ n) (hn' : n ≤ 50) (hi : 0 ≤ i) (hi' : i ≤ 50) :
    honeycombref03_common.l1 (k + 4) n [p0, p1] C x12 i [[q0, q1], [r0, r1], [s0, s1]] 3 0 u v t = honeycombref03_common.l0 k (n + eqc p0 p1 q0 q1 + eqc p0 p1 r0 r1 + eqc p0 p1 s0 s1) C x12 (i + 1) u v t := by
  have b0 := eqc_bd p0 p1 q0 q1
  have b1 := eqc_bd p0 p1 r0 r1
  rw [com_at (k + 3) n p0 p1 q0 q1 C x12 i _ 0 u v t rfl (by omega) (by omega) rfl hn (by omega), com_at (k + 2) _ p0 p1 r0 r1 C x12 i _ (0 + 1) u v t rfl (by omega) (by omega) rfl (by omega) (by omega),
    com_at (k + 1) _ p0 p1 s0 s1 C x12 i _ (0 + 1 + 1) u v t rfl (by omega) (by omega) rfl (by omega) (by omega)]
  simp only [honeycombref03_common.l1]
  rw [if_neg (by omega), w64i (i + 1) (by omega) (by omega)]
def cx (h : Int) (k : Nat) : Int := if h = 0 then (if k = 0 then 0 else if k = 1 then 1 else 0) else (if k = 0 then 1 else if k = 1 then 0 else 1)
def cy (h : Int) (k : Nat) : Int := if h = 0 then (if k = 0 then 0 else if k = 1 then 0 else 1) else (if k = 0 then 0 else if k = 1 then 1 else 1)
theorem corners_f (a b h : Int) (ha : -5000000000000 ≤ a) (ha' : a ≤ 5000000000000) (hb : -5000000000000 ≤ b) (hb' : b ≤ 5000000000000) :
    honeycombref03_Corners.f a b h = some [[a + cx h 0, b + cy h 0], [a + cx h 1, b + cy h 1], [a + cx h 2, b + cy h 2]] := by
  unfold honeycombref03_Corners.f
  rw [w64i (a + 1) (by omega) (by omega), w64i (b + 1) (by omega) (by omega)]
  by_cases h0 : h = 0
  · rw [if_pos h0]
    simp [cx, cy, h0]
  · rw [if_neg h0]
    simp [cx, cy, h0]
/-- how many corners two triangles have in common: by how much one lies further -/
def comD (h dx dy h' : Int) : Int :=
  eqc (cx h 0) (cy h 0) (dx + cx h' 0) (dy + cy h' 0) + eqc (cx h 0) (cy h 0) (dx + cx h' 1) (dy + cy h' 1) + eqc (cx h 0) (cy h 0) (dx + cx h' 2) (dy + cy h' 2) +
  eqc (cx h 1) (cy h 1) (dx + cx h' 0) (dy + cy h' 0) + eqc (cx h 1) (cy h 1) (dx + cx h' 1) (dy + cy h' 1) + eqc (cx h 1) (cy h 1) (dx + cx h' 2) (dy + cy h' 2) +
  eqc (cx h 2) (cy h 2) (dx + cx h' 0) (dy + cy h' 0) + eqc (cx h 2) (cy h 2) (dx + cx h' 1) (dy + cy h' 1) + eqc (cx h 2) (cy h 2) (dx + cx h' 2) (dy + cy h' 2)
theorem com_l0 (k : Nat) (n : Int) (P0 P1 Q0 Q1 R0 R1 : Int) (i p0 p1 : Int) (a b h : Int) (hi : i = 0 ∨ i = 1 ∨ i = 2) (hp : rd_L10 [[P0, P1], [Q0, Q1], [R0, R1]] i = [p0, p1]) (hn : 0 ≤ n) (hn' : n ≤ 50)
    (ha : -5000000000000 ≤ a) (ha' : a ≤ 5000000000000) (hb : -5000000000000 ≤ b) (hb' : b ≤ 5000000000000) :
    honeycombref03_common.l0 (k + 5) n [[P0, P1], [Q0, Q1], [R0, R1]] 3 i a b h = honeycombref03_common.l0 k (n + eqc p0 p1 (a + cx h 0) (b + cy h 0) + eqc p0 p1 (a + cx h 1) (b + cy h 1) + eqc p0 p1 (a + cx h 2) (b + cy h 2)) [[P0, P1], [Q0, Q1], [R0, R1]] 3 (i + 1) a b h := by
  rw [show k + 5 = (k + 4) + 1 from rfl]
  simp only [honeycombref03_common.l0]
  rw [if_pos (by omega), if_pos (by omega), if_pos (by simp; omega), corners_f a b h ha ha' hb hb', hp]
  simp only [Option.bind_some]
  exact com_row k n p0 p1 _ 3 i _ _ _ _ _ _ a b h hn hn' (by omega) (by omega)
theorem common_f (k : Nat) (a b h dx dy h' : Int) (ha : -4000000000000 ≤ a) (ha' : a ≤ 4000000000000) (hb : -4000000000000 ≤ b) (hb' : b ≤ 4000000000000) (hdx : -100 ≤ dx) (hdx' : dx ≤ 100) (hdy : -100 ≤ dy) (hdy' : dy ≤ 100) :
    honeycombref03_common.f (k + 16) a b h (a + dx) (b + dy) h' = some (comD h dx dy h') := by
  unfold honeycombref03_common.f
  rw [corners_f a b h (by omega) (by omega) (by omega) (by omega)]
  simp only [Option.bind_some, List.length_cons, List.length_nil]
  have e00 := eqc_bd (a + cx h 0) (b + cy h 0) (a + dx + cx h' 0) (b + dy + cy h' 0)
  have e01 := eqc_bd (a + cx h 0) (b + cy h 0) (a + dx + cx h' 1) (b + dy + cy h' 1)
  have e02 := eqc_bd (a + cx h 0) (b + cy h 0) (a + dx + cx h' 2) (b + dy + cy h' 2)
  have e10 := eqc_bd (a + cx h 1) (b + cy h 1) (a + dx + cx h' 0) (b + dy + cy h' 0)
  have e11 := eqc_bd (a + cx h 1) (b + cy h 1) (a + dx + cx h' 1) (b + dy + cy h' 1)
  have e12 := eqc_bd (a + cx h 1) (b + cy h 1) (a + dx + cx h' 2) (b + dy + cy h' 2)
  rw [show (((0 + 1 + 1 + 1 : Nat) : Int)) = 3 from rfl]
  rw [com_l0 (k + 11) 0 _ _ _ _ _ _ 0 _ _ (a + dx) (b + dy) h' (.inl rfl) rfl (by omega) (by omega) (by omega) (by omega) (by omega) (by omega),
    com_l0 (k + 6) _ _ _ _ _ _ _ (0 + 1) _ _ (a + dx) (b + dy) h' (.inr (.inl rfl)) rfl (by omega) (by omega) (by omega) (by omega) (by omega) (by omega),
    com_l0 (k + 1) _ _ _ _ _ _ _ (0 + 1 + 1) _ _ (a + dx) (b + dy) h' (.inr (.inr rfl)) rfl (by omega) (by omega) (by omega) (by omega) (by omega) (by omega)]
  simp only [honeycombref03_common.l0]
  rw [if_neg (by omega)]
  simp only [eqc_sh, comD, Int.zero_add]
/-- are two cells beside each other: by how much one lies further -/
def nearD (l h dx dy h' : Int) : Bool := if dx = 0 ∧ dy = 0 ∧ h = h' then false else if l = 1 then decide (-1 ≤ dx ∧ dx ≤ 1 ∧ -1 ≤ dy ∧ dy ≤ 1 ∧ dx ≠ dy) else if l = 2 then comD h dx dy h' == 2 else decide (comD h dx dy h' > 0)
theorem near_f (k : Nat) (l a b h dx dy h' : Int) (ha : -4000000000000 ≤ a) (ha' : a ≤ 4000000000000) (hb : -4000000000000 ≤ b) (hb' : b ≤ 4000000000000) (hdx : -100 ≤ dx) (hdx' : dx ≤ 100) (hdy : -100 ≤ dy) (hdy' : dy ≤ 100) :
    honeycombref03_Near.f (k + 16) l a b h (a + dx) (b + dy) h' = some (nearD l h dx dy h') := by
  unfold honeycombref03_Near.f nearD
  by_cases h0 : dx = 0 ∧ dy = 0 ∧ h = h'
  · obtain ⟨rfl, rfl, rfl⟩ := h0
    simp
  · rw [if_neg h0, if_neg (by simp; omega), w64i (a + dx - a) (by omega) (by omega), w64i (b + dy - b) (by omega) (by omega), common_f k a b h dx dy h' ha ha' hb hb' hdx hdx' hdy hdy', show a + dx - a = dx by omega, show b + dy - b = dy by omega]
    by_cases h1 : l = 1
    · rw [if_pos h1, if_pos h1]
      by_cases c1 : dx ≥ -1
      · by_cases c2 : dx ≤ 1
        · by_cases c3 : dy ≥ -1
          · by_cases c4 : dy ≤ 1
            · rw [if_pos c1, if_pos c2, if_pos c3, if_pos c4]
              congr 1
              by_cases c5 : dx = dy
              · rw [decide_eq_false (by omega)]
                simp [c5]
              · rw [decide_eq_true (by omega)]
                simp [c5]
            · rw [if_pos c1, if_pos c2, if_pos c3, if_neg c4, decide_eq_false (by omega)]
          · rw [if_pos c1, if_pos c2, if_neg c3, decide_eq_false (by omega)]
        · rw [if_pos c1, if_neg c2, decide_eq_false (by omega)]
      · rw [if_neg c1, decide_eq_false (by omega)]
    · rw [if_neg h1, if_neg h1]
      by_cases h2 : l = 2
      · rw [if_pos h2, if_pos h2]; rfl
      · rw [if_neg h2, if_neg h2]; rfl
end Go.Proofs.YtaeenefdbahfoaaDoor
namespace Go.Proofs.YtaeenefdbahfoaaDoor
set_option linter.unusedSimpArgs false
set_option linter.unusedVariables false
open Go.RowKit Go.Proofs.YtaeenefdbahfoaaDoorW.PrintWords Go.Proofs.YtaeenefdbahfoaaDoorW.PrintLast Go.Proofs.YtaeenefdbahfoaaDoorW.PrintMore
open H
open Go.RowKit
/-- one of the places around a cell -/
def candR (l a b h x y : Int) (t : Int) : List RC := if ((decide (l > 1) || t == 0) && nearD l h x y t) = true then [⟨a + x, b + y, t⟩] else []
def goodR (xs : List RC) : Bool := xs.all fun x => decide (goodP x.f0 x.f1)
theorem bes_cand (m : Nat) (hm : 16 ≤ m) (l : Int) (out : List RC) (fine : Bool) (x y t a b h : Int) (ht : t = 0 ∨ t = 1) (ho : out.length ≤ 100) (ha : -2000000000000 ≤ a) (ha' : a ≤ 2000000000000) (hb : -2000000000000 ≤ b) (hb' : b ≤ 2000000000000) (hx : -2 ≤ x) (hx' : x ≤ 2) (hy : -2 ≤ y) (hy' : y ≤ 2) :
    honeycombref03_Beside.l2 (m + 2) l out fine (b + y) (a + x) t a b h = honeycombref03_Beside.l2 m l (out ++ candR l a b h x y t) (fine && goodR (candR l a b h x y t)) (b + y) (a + x) (t + 1) a b h := by
  have hn : honeycombref03_Near.f (m + 1) l a b h (a + x) (b + y) t = some (nearD l h x y t) := by
    obtain ⟨j, rfl⟩ : ∃ j, m = j + 16 := ⟨m - 16, by omega⟩
    exact near_f (j + 1) l a b h x y t (by omega) (by omega) (by omega) (by omega) (by omega) (by omega) (by omega) (by omega)
  have hw : wrap64 (t + 1) = t + 1 := w64i _ (by omega) (by omega)
  have ho' : out.length < 5864062014805 := by omega
  have hg := refGood_f (a + x) (b + y)
  simp only [honeycombref03_Beside.l2, honeycombref03_Beside.j3]
  rw [if_pos (by omega), hn, hw]
  simp only [Option.bind_some, if_pos ho', hg]
  unfold candR
  by_cases h1 : l > 1
  · rw [if_pos h1]
    cases hc : nearD l h x y t <;> cases fine <;> simp [h1, goodR]
  · rw [if_neg h1]
    rcases ht with rfl | rfl
    · rw [if_pos rfl]
      cases hc : nearD l h x y 0 <;> cases fine <;> simp [goodR]
    · rw [if_neg (by omega)]
      cases hc : nearD l h x y 1 <;> cases fine <;> simp [h1, goodR]
end Go.Proofs.YtaeenefdbahfoaaDoor
namespace Go.Proofs.YtaeenefdbahfoaaDoor
set_option linter.unusedSimpArgs false
set_option linter.unusedVariables false
open Go.RowKit Go.Proofs.YtaeenefdbahfoaaDoorW.PrintWords Go.Proofs.YtaeenefdbahfoaaDoorW.PrintLast Go.Proofs.YtaeenefdbahfoaaDoorW.PrintMore
open H
open Go.RowKit
theorem candR_len (l a b h x y t : Int) : (candR l a b h x y t).length ≤ 1 := by unfold candR; split <;> simp
theorem goodR_app (xs ys : List RC) : goodR (xs ++ ys) = (goodR xs && goodR ys) := by simp [goodR]
def placeR (l a b h x y : Int) : List RC := candR l a b h x y 0 ++ candR l a b h x y 1
theorem placeR_len (l a b h x y : Int) : (placeR l a b h x y).length ≤ 2 := by
  have := candR_len l a b h x y 0
  have := candR_len l a b h x y 1
  simp only [placeR, List.length_append]
  omega
section
variable (l a b h : Int) (ha : -2000000000000 ≤ a) (ha' : a ≤ 2000000000000) (hb : -2000000000000 ≤ b) (hb' : b ≤ 2000000000000)
include ha ha' hb hb'
theorem bes_place (m : Nat) (hm : 16 ≤ m) (out : List RC) (fine : Bool) (x y : Int) (ho : out.length ≤ 90) (hx : -2 ≤ x) (hx' : x ≤ 2) (hy : -2 ≤ y) (hy' : y ≤ 2) :
    honeycombref03_Beside.l2 (m + 5) l out fine (b + y) (a + x) 0 a b h = honeycombref03_Beside.l1 m l (out ++ placeR l a b h x y) (fine && goodR (placeR l a b h x y)) (b + y) (a + (x + 1)) a b h := by
  have h0 := candR_len l a b h x y 0
  rw [bes_cand (m + 3) (by omega) l out fine x y 0 a b h (.inl rfl) (by omega) ha ha' hb hb' hx hx' hy hy',
    bes_cand (m + 1) (by omega) l _ _ x y (0 + 1) a b h (.inr rfl) (by simp; omega) ha ha' hb hb' hx hx' hy hy']
  simp only [honeycombref03_Beside.l2]
  rw [if_neg (by omega), w64i (a + x + 1) (by omega) (by omega), show a + x + 1 = a + (x + 1) by omega]
  simp only [placeR, goodR_app, List.append_assoc, Bool.and_assoc, Int.zero_add]
def rowN (y : Int) : Nat → List RC
  | 0 => []
  | n + 1 => placeR l a b h (3 - (n + 1 : Nat)) y ++ rowN y n
omit ha ha' hb hb' in
theorem rowN_len (y : Int) (n : Nat) : (rowN l a b h y n).length ≤ 2 * n := by
  induction n with
  | zero => simp [rowN]
  | succ n ih =>
    have := placeR_len l a b h (3 - (n + 1 : Nat)) y
    simp only [rowN, List.length_append]
    omega
theorem bes_row (m : Nat) (hm : 16 ≤ m) (y : Int) (hy : -2 ≤ y) (hy' : y ≤ 2) : ∀ (n : Nat) (x : Int) (out : List RC) (fine : Bool), x = 3 - n → n ≤ 5 → out.length + 2 * n ≤ 90 →
    honeycombref03_Beside.l1 (m + 6 * n + 1) l out fine (b + y) (a + x) a b h = honeycombref03_Beside.l0 m l (out ++ rowN l a b h y n) (fine && goodR (rowN l a b h y n)) (b + (y + 1)) a b h := by
  intro n
  induction n with
  | zero =>
    intro x out fine hx _ _
    rw [show m + 6 * 0 + 1 = m + 1 from rfl]
    simp only [honeycombref03_Beside.l1]
    rw [w64i (a + 2) (by omega) (by omega), if_neg (by omega), w64i (b + y + 1) (by omega) (by omega), show b + y + 1 = b + (y + 1) by omega]
    simp [rowN, goodR]
  | succ n ih =>
    intro x out fine hx hn ho
    have hl := placeR_len l a b h x y
    rw [show m + 6 * (n + 1) + 1 = (m + 6 * n + 1) + 5 + 1 by omega]
    rw [show honeycombref03_Beside.l1 (m + 6 * n + 1 + 5 + 1) l out fine (b + y) (a + x) a b h = honeycombref03_Beside.l2 (m + 6 * n + 1 + 5) l out fine (b + y) (a + x) 0 a b h by
      simp only [honeycombref03_Beside.l1]
      rw [w64i (a + 2) (by omega) (by omega), if_pos (by omega)]]
    rw [bes_place l a b h ha ha' hb hb' (m + 6 * n + 1) (by omega) out fine x y (by omega) (by omega) (by omega) hy hy', ih (x + 1) _ _ (by omega) (by omega) (by simp; omega)]
    have hx' : (3 : Int) - ((n + 1 : Nat) : Int) = x := by omega
    simp only [rowN, hx', goodR_app, List.append_assoc, Bool.and_assoc]
def allN : Nat → List RC
  | 0 => []
  | n + 1 => rowN l a b h (3 - (n + 1 : Nat)) 5 ++ allN n
theorem bes_step (M : Nat) (hM : 16 ≤ M) (y : Int) (hy : -2 ≤ y) (hy' : y ≤ 2) (out : List RC) (fine : Bool) (ho : out.length ≤ 80) :
    honeycombref03_Beside.l0 (M + 32) l out fine (b + y) a b h = honeycombref03_Beside.l0 M l (out ++ rowN l a b h y 5) (fine && goodR (rowN l a b h y 5)) (b + (y + 1)) a b h := by
  have e := bes_row l a b h ha ha' hb hb' M hM y hy hy' 5 (-2) out fine (by omega) (by omega) (by omega)
  rw [show M + 6 * 5 + 1 = M + 31 from rfl] at e
  rw [← e, show M + 32 = (M + 31) + 1 from rfl]
  generalize M + 31 = K
  simp only [honeycombref03_Beside.l0]
  rw [w64i (b + 2) (by omega) (by omega), if_pos (by omega), w64i (a - 2) (by omega) (by omega), show a - 2 = a + -2 by omega]
omit ha ha' in
theorem bes_end (M : Nat) (out : List RC) (fine : Bool) : honeycombref03_Beside.l0 (M + 1) l out fine (b + 3) a b h = some (out, fine) := by
  simp only [honeycombref03_Beside.l0]
  rw [w64i (b + 2) (by omega) (by omega), if_neg (by omega)]
theorem bes_all (m : Nat) (hm : 16 ≤ m) : ∀ (n : Nat) (y : Int) (out : List RC) (fine : Bool), y = 3 - n → n ≤ 5 → out.length + 10 * n ≤ 80 →
    honeycombref03_Beside.l0 (m + 1 + 32 * n) l out fine (b + y) a b h = some (out ++ allN l a b h n, fine && goodR (allN l a b h n)) := by
  intro n
  induction n with
  | zero =>
    intro y out fine hy _ _
    rw [show y = 3 by omega, Nat.mul_zero, Nat.add_zero, bes_end l a b h hb hb']
    simp [allN, goodR]
  | succ n ih =>
    intro y out fine hy hn ho
    have hl := rowN_len l a b h y 5
    have hy' : (3 : Int) - ((n + 1 : Nat) : Int) = y := by omega
    have hsum : m + 1 + 32 * (n + 1) = (m + 1 + 32 * n) + 32 := by omega
    have hM : 16 ≤ m + 1 + 32 * n := by omega
    rw [hsum, bes_step l a b h ha ha' hb hb' _ hM y (by omega) (by omega) out fine (by omega), ih (y + 1) _ _ (by omega) (by omega) (by simp; omega)]
    simp only [allN, hy', goodR_app, List.append_assoc, Bool.and_assoc]
end
def shR (a b : Int) (o : CL) : RC := ⟨a + o.f0.f0, b + o.f0.f1, o.f1⟩
def candD (l h x y t : Int) : List CL := if ((decide (l > 1) || t == 0) && nearD l h x y t) = true then [mk x y t] else []
theorem candR_eq (l a b h x y t : Int) : candR l a b h x y t = (candD l h x y t).map (shR a b) := by
  unfold candR candD
  split <;> simp [shR, mk]
def fives : List Int := [-2, -1, 0, 1, 2]
def allD (l h : Int) : List CL := fives.flatMap fun y => fives.flatMap fun x => candD l h x y 0 ++ candD l h x y 1
theorem allN_eq (l a b h : Int) : allN l a b h 5 = (allD l h).map (shR a b) := by
  simp only [allN, rowN, placeR, candR_eq, allD, fives, List.flatMap_cons, List.flatMap_nil, List.map_append, List.append_assoc, List.append_nil]
  rfl
theorem allD_offs (l h : Int) (hl : 1 ≤ l) (hl' : l ≤ 3) (h0 : h = 0 ∨ h = 1) (h1 : l = 1 → h = 0) : allD l h = offs l h := by
  have : l = 1 ∨ l = 2 ∨ l = 3 := by omega
  rcases this with rfl | rfl | rfl
  · rw [h1 rfl]; decide
  · rcases h0 with rfl | rfl <;> decide
  · rcases h0 with rfl | rfl <;> decide
/-- the document's list -/
theorem refBeside_f (m : Nat) (hm : 16 ≤ m) (l a b h : Int) (hl : 1 ≤ l) (hl' : l ≤ 3) (h0 : h = 0 ∨ h = 1) (h1 : l = 1 → h = 0) (hg : goodP a b) :
    honeycombref03_Beside.f (m + 161) l a b h = some ((offs l h).map (shR a b), goodR ((offs l h).map (shR a b))) := by
  obtain ⟨g1, g2, g3, g4⟩ := hg
  unfold honeycombref03_Beside.f
  rw [w64i (b - 2) (by omega) (by omega)]
  have := bes_all l a b h (by omega) (by omega) (by omega) (by omega) m hm 5 (-2) [] true (by omega) (by omega) (by simp)
  rw [show b - 2 = b + -2 by omega, show m + 161 = m + 1 + 32 * 5 by omega, this, allN_eq, allD_offs l h hl hl' h0 h1]
  simp
end Go.Proofs.YtaeenefdbahfoaaDoor
namespace Go.Proofs.YtaeenefdbahfoaaDoor.H
open Go.RowKit Go.Proofs.YtaeenefdbahfoaaDoorW.PrintWords Go.Proofs.YtaeenefdbahfoaaDoorW.PrintLast Go.Proofs.YtaeenefdbahfoaaDoorW.PrintMore
attribute [local go_sem] max2_int min2_int max_two min_two max_three min_three max_four min_four   -- for this text's walks alone
set_option linter.unusedVariables false
set_option linter.unusedSimpArgs false
def honeycombref05_bit.l0 : Nat → Int → Int → Int → Option (Int)
 | 0, _, _, _ => none
 | k + 1, x0, x1, x5 => if x5 < x1 then (honeycombref05_bit.l0 k (IntKind.u64.wrap (Int.tdiv x0 2)) x1 (wrap64 (x5 + 1))) else (some (wrap64 (Int.tmod x0 2)))
def honeycombref05_bit.f (k : Nat) (a0 : Int) (a1 : Int) : Option (Int) := honeycombref05_bit.l0 k a0 a1 0
set_option maxHeartbeats 8000000 in
set_option maxRecDepth 100000 in
theorem honeycombref05_bit.calls (k : Nat) (a0 : Int) (a1 : Int) (r : Int) (w : World) (h : honeycombref05_bit.f k a0 a1 = some r) :
  Calls Tryd.prog 69 #[.int .u64 a0, .int .i64 a1] w fun e w' => e = .returned (.int .i64 r) ∧ Drawn0 w w' := by
 have H : (honeycombref05_bit.l0 k a0 a1 0) = some r := h
 clear h
 have H' := Aside0.mk H
 clear H
 go_enter Tryd.func69, Tryd.ntmps69
 go_wp2
 go_loopg [0, 5] k (fun kq v0 v5 w' => ∃ (x0_1 : Int) (x5_1 : Int), v0 = .int .u64 x0_1 ∧ v5 = .int .i64 x5_1 ∧ Aside0 (honeycombref05_bit.l0 kq x0_1 a1 x5_1 = some r) ∧ Aside0 (kq ≤ k) ∧ Drawn0 w w')
 case atStart => exact ⟨(a0), (0), (by first | rfl | (simp; done) | (simp [*]; done)), (by first | rfl | (simp; done) | (simp [*]; done)), H', ⟨Nat.le_refl _⟩, by repeat (first | exact Drawn0.refl _ | apply Drawn0.step)⟩
 case round =>
  clear H'
  try clear p2
  obtain ⟨x0_1, x5_1, rfl, rfl, HA, HK1, ⟨m1, rfl⟩⟩ := hrel
  cases gk with
  | zero => exact absurd HA.out (by simp [honeycombref05_bit.l0])
  | succ k1 =>
   have H := HA.out
   clear HA
   simp only [honeycombref05_bit.l0] at H
   by_cases c3 : x5_1 < a1
   ·
    rw [if_pos c3] at H
    have c3b0 : decide (x5_1 < a1) = true := decide_eq_true c3
    clear c3
    have H' := Aside0.mk H
    clear H
    go_wp2
    go_roundg k1
    case measure => have := HK1.out; omega
    case rel => exact ⟨(IntKind.u64.wrap (Int.tdiv x0_1 2)), (wrap64 (x5_1 + 1)), (by first | rfl | (simp; done) | (simp [*]; done)), (by first | rfl | (simp; done) | (simp [*]; done)), H', ⟨by have := HK1.out; omega⟩, by repeat (first | exact Drawn0.refl _ | apply Drawn0.step)⟩
   ·
    rw [if_neg c3] at H
    have c3b0 : decide (x5_1 < a1) = false := decide_eq_false c3
    clear c3
    obtain rfl := Option.some.inj H
    go_wp2
    go_ret
    exact ⟨by first | rfl | (simp; done) | (simp [*]; done), by repeat (first | exact Drawn0.refl _ | apply Drawn0.step)⟩
end Go.Proofs.YtaeenefdbahfoaaDoor.H
namespace Go.Proofs.YtaeenefdbahfoaaDoor.H
open Go.RowKit Go.Proofs.YtaeenefdbahfoaaDoorW.PrintWords Go.Proofs.YtaeenefdbahfoaaDoorW.PrintLast Go.Proofs.YtaeenefdbahfoaaDoorW.PrintMore
attribute [local go_sem] max2_int min2_int max_two min_two max_three min_three max_four min_four   -- for this text's walks alone
set_option linter.unusedVariables false
set_option linter.unusedSimpArgs false
def honeycombref05_Next.j0 : Nat → Int → Bool → Int → Bool → Int → List Int → List Int → Option (Bool)
 | 0, _, _, _, _, _, _, _ => none
 | k + 1, x1, x2, x3, x22, x373000, x373001, x373002 => if x22 = true then (some false) else (if x2 = true then (if 0 ≤ x1 then (if x1 < (x373002.length : Int) then ((honeycombref05_bit.f k (rd x373002 x1) x3).bind fun t374 => (some (t374 == 1))) else (none)) else (none)) else (if 0 ≤ x1 then (if x1 < (x373001.length : Int) then ((honeycombref05_bit.f k (rd x373001 x1) x3).bind fun t376 => (some (t376 == 1))) else (none)) else (none)))
def honeycombref05_Next.f (k : Nat) (a0_0 : Int) (l0_1 : List Int) (l0_2 : List Int) (a1 : Int) (a2 : Bool) (a3 : Int) : Option (Bool) := if a1 < 0 then (honeycombref05_Next.j0 k a1 a2 a3 true a0_0 l0_1 l0_2) else (if a1 > 1 then (honeycombref05_Next.j0 k a1 a2 a3 true a0_0 l0_1 l0_2) else (if a3 < 0 then (honeycombref05_Next.j0 k a1 a2 a3 true a0_0 l0_1 l0_2) else (honeycombref05_Next.j0 k a1 a2 a3 (decide (a3 > 63)) a0_0 l0_1 l0_2)))
set_option maxHeartbeats 8000000 in
set_option maxRecDepth 100000 in
theorem honeycombref05_Next.calls (k : Nat) (a0_0 : Int) (A0_1 : Option Addr) (c0_1 : Nat) (l0_1 : List Int) (A0_2 : Option Addr) (c0_2 : Nat) (l0_2 : List Int) (a1 : Int) (a2 : Bool) (a3 : Int) (r : Bool) (w : World) (hr0_1 : Kd.C (Kd.int .u64) w A0_1 l0_1.length l0_1) (hc0_1 : l0_1.length ≤ c0_1) (hr0_2 : Kd.C (Kd.int .u64) w A0_2 l0_2.length l0_2) (hc0_2 : l0_2.length ≤ c0_2) (h : honeycombref05_Next.f k a0_0 l0_1 l0_2 a1 a2 a3 = some r) :
  Calls Tryd.prog 35 #[.agg #[.int .i64 a0_0, .slice A0_1 l0_1.length c0_1, .slice A0_2 l0_2.length c0_2], .int .i64 a1, .bool a2, .int .i64 a3] w fun e w' => e = .returned (.bool r) ∧ Below w.heap.size w w' := by
 have hu55 := Tryd.underlying55
 have HR0_1 := Aside0.mk hr0_1
 have HC0_1 := Aside0.mk hc0_1
 clear hr0_1 hc0_1
 have HR0_2 := Aside0.mk hr0_2
 have HC0_2 := Aside0.mk hc0_2
 clear hr0_2 hc0_2
 have HB := Aside0.mk (Below.refl w.heap.size w)
 have H : (if a1 < 0 then (honeycombref05_Next.j0 k a1 a2 a3 true a0_0 l0_1 l0_2) else (if a1 > 1 then (honeycombref05_Next.j0 k a1 a2 a3 true a0_0 l0_1 l0_2) else (if a3 < 0 then (honeycombref05_Next.j0 k a1 a2 a3 true a0_0 l0_1 l0_2) else (honeycombref05_Next.j0 k a1 a2 a3 (decide (a3 > 63)) a0_0 l0_1 l0_2)))) = some r := h
 clear h
 have HC5 := Aside0.mk H
 clear H
 go_enter Tryd.func35, Tryd.ntmps35
 go_upto_region 1 with (first | ((with_reducible refine gate_dst (N := 4) rfl ?_); refine box_event ?hg (N := 4) ?hd (cs := #[.int .i64 a0_0, .slice A0_1 l0_1.length c0_1, .slice A0_2 l0_2.length c0_2]) (t := 55) ?hr ?_; (case hd => rfl); (case hg => rfl); (case hr => first | (go_simp; done) | (go_simp; rfl)); intro gb372 hg w6 hbox hb; have n0_ := Aside0.mk (below_step (by repeat (first | (with_reducible first | exact HB.out | apply ba_ | apply bn_ | apply bd_) | exact HB.out)) hb); have n1_ := Aside0.mk (hbox); have n2_ := Aside0.mk ((by rw [hg]; exact (below_size (by repeat (first | (with_reducible first | exact HB.out | apply ba_ | apply bn_ | apply bd_) | exact HB.out))) : w.heap.size ≤ gb372)); have n3_ := Aside0.mk ((by rw [hg]; exact (below_size (by repeat (first | (with_reducible first | exact HB.out | apply ba_ | apply bn_ | apply bd_) | exact HB.out))) : w.heap.size ≤ gb372)); clear HB; have HB := n0_; have BK372 := n1_; have GW372 := n2_; have GE372 := n3_; clear n0_ n1_ n2_ n3_; clear hb hbox hg))
 (try simp only [Act.put, List.setIfInBounds_toArray, List.set_cons_zero, List.set_cons_succ])
 go_cut [22] (fun v22 wc => ∃ (kq : Nat) (x22_4 : Bool), v22 = .bool x22_4 ∧ Aside0 (honeycombref05_Next.j0 kq a1 a2 a3 x22_4 a0_0 l0_1 l0_2 = some r) ∧ Aside0 (kq ≤ k) ∧ Aside0 (wc.heap[gb372]? = some (.cells #[.int .i64 a0_0, (.slice A0_1 l0_1.length c0_1), (.slice A0_2 l0_2.length c0_2)] 55 (0, 0))) ∧ Aside0 (Below w.heap.size w wc))
 case first =>
  have H := HC5.out
  clear HC5
  by_cases c7 : a1 < 0
  ·
   rw [if_pos c7] at H
   have c7b0 : decide (a1 < 0) = true := decide_eq_true c7
   clear c7
   (first | rw [c7b0] | (simp only [i64_w, i32_w]; rw [c7b0]) | skip)
   have H' := Aside0.mk H
   clear H
   go_wp2
   go_meet
   case rel => exact ⟨_, (true), (by first | rfl | (simp; done) | (simp [*]; done)), H', ⟨by first | omega | exact Nat.le_refl _⟩, ⟨by (with_reducible repeat (first | apply bN_ | apply bD_ | apply bA_)); exact BK372.out⟩, ⟨by repeat (first | (with_reducible first | exact HB.out | apply ba_ | apply bn_ | apply bd_ | refine below_set ?_ GE372.out) | exact HB.out)⟩⟩
  ·
   rw [if_neg c7] at H
   have c7b0 : decide (a1 < 0) = false := decide_eq_false c7
   clear c7
   (first | rw [c7b0] | (simp only [i64_w, i32_w]; rw [c7b0]) | skip)
   by_cases c8 : a1 > 1
   ·
    rw [if_pos c8] at H
    have c8b0 : decide (1 < a1) = true := decide_eq_true c8
    clear c8
    have H' := Aside0.mk H
    clear H
    go_wp2
    go_meet
    case rel => exact ⟨_, (true), (by first | rfl | (simp; done) | (simp [*]; done)), H', ⟨by first | omega | exact Nat.le_refl _⟩, ⟨by (with_reducible repeat (first | apply bN_ | apply bD_ | apply bA_)); exact BK372.out⟩, ⟨by repeat (first | (with_reducible first | exact HB.out | apply ba_ | apply bn_ | apply bd_ | refine below_set ?_ GE372.out) | exact HB.out)⟩⟩
   ·
    rw [if_neg c8] at H
    have c8b0 : decide (1 < a1) = false := decide_eq_false c8
    clear c8
    by_cases c9 : a3 < 0
    ·
     rw [if_pos c9] at H
     have c9b0 : decide (a3 < 0) = true := decide_eq_true c9
     clear c9
     have H' := Aside0.mk H
     clear H
     go_wp2
     go_meet
     case rel => exact ⟨_, (true), (by first | rfl | (simp; done) | (simp [*]; done)), H', ⟨by first | omega | exact Nat.le_refl _⟩, ⟨by (with_reducible repeat (first | apply bN_ | apply bD_ | apply bA_)); exact BK372.out⟩, ⟨by repeat (first | (with_reducible first | exact HB.out | apply ba_ | apply bn_ | apply bd_ | refine below_set ?_ GE372.out) | exact HB.out)⟩⟩
    ·
     rw [if_neg c9] at H
     have c9b0 : decide (a3 < 0) = false := decide_eq_false c9
     clear c9
     have H' := Aside0.mk H
     clear H
     go_wp2
     go_meet
     case rel => exact ⟨_, (decide (a3 > 63)), (by first | rfl | (simp; done) | (simp [*]; done)), H', ⟨by first | omega | exact Nat.le_refl _⟩, ⟨by (with_reducible repeat (first | apply bN_ | apply bD_ | apply bA_)); exact BK372.out⟩, ⟨by repeat (first | (with_reducible first | exact HB.out | apply ba_ | apply bn_ | apply bd_ | refine below_set ?_ GE372.out) | exact HB.out)⟩⟩
 case rest =>
  clear HC5
  try clear p2
  try clear c3
  try clear c7
  try clear c7b0
  try clear c8
  try clear c8b0
  try clear c9
  try clear c9b0
  obtain ⟨kq, x22_4, rfl, HA, HJ4, BK372, HB⟩ := hcut
  cases kq with
  | zero => exact absurd HA.out (by simp [honeycombref05_Next.j0])
  | succ kj4 =>
   have H := HA.out
   clear HA
   simp only [honeycombref05_Next.j0] at H
   by_cases c10 : x22_4 = true
   ·
    subst c10
    have H1 : (some false) = some r := by rw [if_pos rfl] at H; exact H
    clear H
    have H := H1
    clear H1
    obtain rfl := Option.some.inj H
    go_wp2
    go_ret
    exact ⟨by first | rfl | (simp [errW_none, errW_some] <;> rfl) | (simp [*, errW_none, errW_some] <;> rfl), by repeat (first | (with_reducible first | exact HB.out | apply ba_ | apply bn_ | apply bd_ | refine below_set ?_ GE372.out) | exact HB.out)⟩
   ·
    replace c10 := Bool.eq_false_iff.mpr c10
    subst c10
    have H1 : (if a2 = true then (if 0 ≤ a1 then (if a1 < (l0_2.length : Int) then ((honeycombref05_bit.f kj4 (rd l0_2 a1) a3).bind fun t374 => (some (t374 == 1))) else (none)) else (none)) else (if 0 ≤ a1 then (if a1 < (l0_1.length : Int) then ((honeycombref05_bit.f kj4 (rd l0_1 a1) a3).bind fun t376 => (some (t376 == 1))) else (none)) else (none))) = some r := by rw [if_neg (show ¬ (false = true) by decide)] at H; exact H
    clear H
    have H := H1
    clear H1
    by_cases c11 : a2 = true
    ·
     subst c11
     have H1 : (if 0 ≤ a1 then (if a1 < (l0_2.length : Int) then ((honeycombref05_bit.f kj4 (rd l0_2 a1) a3).bind fun t374 => (some (t374 == 1))) else (none)) else (none)) = some r := by rw [if_pos rfl] at H; exact H
     clear H
     have H := H1
     clear H1
     by_cases c12 : 0 ≤ a1
     ·
      rw [if_pos c12] at H
      have c12b0 : decide (0 ≤ a1) = true := decide_eq_true c12
      clear c12
      by_cases c13 : a1 < (l0_2.length : Int)
      ·
       rw [if_pos c13] at H
       have c13b0 : decide (a1 < (l0_2.length : Int)) = true := decide_eq_true c13
       clear c13
       replace H := Option.bind_eq_some_iff.mp H
       obtain ⟨t374, A140, H⟩ := H
       replace H : (some (t374 == 1)) = some r := H
       have A14 := Aside0.mk A140
       clear A140
       obtain rfl := Option.some.inj H
       have hcz15_0 : wc.cell? ⟨gb372, 0, none⟩ = some (.int .i64 a0_0) := (blk_cell BK372.out 0).trans rfl
       have hcz15_1 : wc.cell? ⟨gb372, 1, none⟩ = some (.slice A0_1 l0_1.length c0_1) := (blk_cell BK372.out 1).trans rfl
       have hcz15_2 : wc.cell? ⟨gb372, 2, none⟩ = some (.slice A0_2 l0_2.length c0_2) := (blk_cell BK372.out 2).trans rfl
       have hfz15_0 := blk_frozen BK372.out 0
       have hfz15_1 := blk_frozen BK372.out 1
       have hfz15_2 := blk_frozen BK372.out 2
       have p373 : 0 ≤ (a1 : Int) := of_decide_eq_true (by first | (with_reducible assumption) | assumption)
       have q373 : a1 < (l0_2.length : Int) := of_decide_eq_true (by first | (with_reducible assumption) | assumption)
       obtain ⟨ad373, e373, hx373_0⟩ := Kd.at_int HR0_2.out a1 p373 q373
       cases e373
       try replace hx373_0 := (HB.out.cell (World.block_lt_of_cell? w _ hx373_0)).trans hx373_0
       replace p373 := eq_true p373
       replace q373 := eq_true q373
       go_wp2_with (first | ((with_reducible refine gate_callee (f := 69) rfl ?_); refine goesL_ (some 30) rfl rfl Tryd.func69 (by kernel_rfl) rfl #[.int .u64 (rd l0_2 a1), .int .i64 a3] rfl (by (try simp only [List.map_toArray, List.map_cons, List.map_nil]); first | done | rfl | (simp only [List.length_drop, List.length_take]; rfl)) ?_; (with_reducible refine (honeycombref05_bit.calls kj4 (rd l0_2 a1) a3 t374 _ A14.out).mono ?_); rintro e w' ⟨rfl, ⟨nd, rfl⟩⟩; refine ⟨_, rfl, ?_⟩))
       go_ret
       exact ⟨by first | rfl | (simp [errW_none, errW_some] <;> rfl) | (simp [*, errW_none, errW_some] <;> rfl), by repeat (first | (with_reducible first | exact HB.out | apply ba_ | apply bn_ | apply bd_ | refine below_set ?_ GE372.out) | exact HB.out)⟩
      ·
       rw [if_neg c13] at H
       exact absurd H (by simp)
     ·
      rw [if_neg c12] at H
      exact absurd H (by simp)
    ·
     replace c11 := Bool.eq_false_iff.mpr c11
     subst c11
     have H1 : (if 0 ≤ a1 then (if a1 < (l0_1.length : Int) then ((honeycombref05_bit.f kj4 (rd l0_1 a1) a3).bind fun t376 => (some (t376 == 1))) else (none)) else (none)) = some r := by rw [if_neg (show ¬ (false = true) by decide)] at H; exact H
     clear H
     have H := H1
     clear H1
     by_cases c16 : 0 ≤ a1
     ·
      rw [if_pos c16] at H
      have c16b0 : decide (0 ≤ a1) = true := decide_eq_true c16
      clear c16
      by_cases c17 : a1 < (l0_1.length : Int)
      ·
       rw [if_pos c17] at H
       have c17b0 : decide (a1 < (l0_1.length : Int)) = true := decide_eq_true c17
       clear c17
       replace H := Option.bind_eq_some_iff.mp H
       obtain ⟨t376, A180, H⟩ := H
       replace H : (some (t376 == 1)) = some r := H
       have A18 := Aside0.mk A180
       clear A180
       obtain rfl := Option.some.inj H
       have hcz19_0 : wc.cell? ⟨gb372, 0, none⟩ = some (.int .i64 a0_0) := (blk_cell BK372.out 0).trans rfl
       have hcz19_1 : wc.cell? ⟨gb372, 1, none⟩ = some (.slice A0_1 l0_1.length c0_1) := (blk_cell BK372.out 1).trans rfl
       have hcz19_2 : wc.cell? ⟨gb372, 2, none⟩ = some (.slice A0_2 l0_2.length c0_2) := (blk_cell BK372.out 2).trans rfl
       have hfz19_0 := blk_frozen BK372.out 0
       have hfz19_1 := blk_frozen BK372.out 1
       have hfz19_2 := blk_frozen BK372.out 2
       have p375 : 0 ≤ (a1 : Int) := of_decide_eq_true (by first | (with_reducible assumption) | assumption)
       have q375 : a1 < (l0_1.length : Int) := of_decide_eq_true (by first | (with_reducible assumption) | assumption)
       obtain ⟨ad375, e375, hx375_0⟩ := Kd.at_int HR0_1.out a1 p375 q375
       cases e375
       try replace hx375_0 := (HB.out.cell (World.block_lt_of_cell? w _ hx375_0)).trans hx375_0
       replace p375 := eq_true p375
       replace q375 := eq_true q375
       go_wp2_with (first | ((with_reducible refine gate_callee (f := 69) rfl ?_); refine goesL_ (some 38) rfl rfl Tryd.func69 (by kernel_rfl) rfl #[.int .u64 (rd l0_1 a1), .int .i64 a3] rfl (by (try simp only [List.map_toArray, List.map_cons, List.map_nil]); first | done | rfl | (simp only [List.length_drop, List.length_take]; rfl)) ?_; (with_reducible refine (honeycombref05_bit.calls kj4 (rd l0_1 a1) a3 t376 _ A18.out).mono ?_); rintro e w' ⟨rfl, ⟨nd, rfl⟩⟩; refine ⟨_, rfl, ?_⟩))
       go_ret
       exact ⟨by first | rfl | (simp [errW_none, errW_some] <;> rfl) | (simp [*, errW_none, errW_some] <;> rfl), by repeat (first | (with_reducible first | exact HB.out | apply ba_ | apply bn_ | apply bd_ | refine below_set ?_ GE372.out) | exact HB.out)⟩
      ·
       rw [if_neg c17] at H
       exact absurd H (by simp)
     ·
      rw [if_neg c16] at H
      exact absurd H (by simp)
end Go.Proofs.YtaeenefdbahfoaaDoor.H
namespace Go.Proofs.YtaeenefdbahfoaaDoor
open Go.RowKit Go.Proofs.YtaeenefdbahfoaaDoorW.PrintWords Go.Proofs.YtaeenefdbahfoaaDoorW.PrintLast Go.Proofs.YtaeenefdbahfoaaDoorW.PrintMore
open H
open Go.RowKit
set_option linter.unusedSimpArgs false
set_option linter.unusedVariables false
abbrev RawO (l b0 b1 s0 s1 : Int) : Obj := .cells #[.int .i64 l, .int .u64 b0, .int .u64 b1, .int .u64 s0, .int .u64 s1] 25 (0, 0)
abbrev RCO (x y h : Int) : Obj := .cells #[.int .i64 x, .int .i64 y, .int .i64 h] 60 (0, 0)
def stepO (s : List CL) (cx cy : Int) (n : Int) (i : Nat) : Int := if mk (cx + sxA i) (cy + sxB i) 0 ∈ s then Go.bits .or .i64 n (2 ^ i) else n
def stepT (s : List CL) (n : Int) (d : RC) : Int := if mk d.f0 d.f1 d.f2 ∈ s then n + 1 else n
def nOne (L : Int) (s : List CL) (cx cy : Int) (ls : List RC) : Int := if L = 1 then (List.range 6).foldl (stepO s cx cy) 0 else ls.foldl (stepT s) 0
abbrev SO (g5 g7 : Nat) (cx cy ch L B0 B1 S0 S1 : Int) (W : World) : Prop := W.cell? ⟨g5, 0, none⟩ = some (.int .i64 cx) ∧ W.cell? ⟨g5, 1, none⟩ = some (.int .i64 cy) ∧ W.cell? ⟨g5, 2, none⟩ = some (.int .i64 ch) ∧ W.cell? ⟨g7, 0, none⟩ = some (.int .i64 L) ∧ W.cell? ⟨g7, 1, none⟩ = some (.int .u64 B0) ∧ W.cell? ⟨g7, 2, none⟩ = some (.int .u64 B1) ∧ W.cell? ⟨g7, 3, none⟩ = some (.int .u64 S0) ∧ W.cell? ⟨g7, 4, none⟩ = some (.int .u64 S1)
theorem SO.of {W : World} {g5 g7 : Nat} {cx cy ch L B0 B1 S0 S1 : Int} (h : W.heap[g5]? = some (RCO cx cy ch)) (h7 : W.heap[g7]? = some (TB L B0 B1 S0 S1)) : SO g5 g7 cx cy ch L B0 B1 S0 S1 W := ⟨blk_cell h 0, blk_cell h 1, blk_cell h 2, blk_cell h7 0, blk_cell h7 1, blk_cell h7 2, blk_cell h7 3, blk_cell h7 4⟩
theorem stepT_bd (s : List CL) (ls : List RC) : ∀ n : Int, 0 ≤ n → n ≤ ls.foldl (stepT s) n ∧ ls.foldl (stepT s) n ≤ n + ls.length := by
  induction ls with
  | nil => intro n _; simp
  | cons d ls ih =>
    intro n hn
    have h1 : n ≤ stepT s n d ∧ stepT s n d ≤ n + 1 := by unfold stepT; split <;> omega
    have := ih (stepT s n d) (by omega)
    simp only [List.foldl_cons, List.length_cons]
    omega
set_option maxRecDepth 100000 in
set_option maxHeartbeats 8000000 in
theorem one_walk (K : Nat) (l b0 b1 s0 s1 : Int) (A1 : Option Addr) (c1 : Nat) (l1 : List RC) (x y h : Int) (w : World) (hG : Six w) (hr : Kd.C k60 w A1 l1.length l1) (hc : l1.length ≤ c1)
    (L B0 B1 S0 S1 : Int) (s u : List CL) (ls : List RC) (cx cy ch : Int) (nx : Rul) (haw : honeycomblaw08_awake.f K = some true)
    (hsome : XSome5.f l b0 b1 s0 s1 = some (L, B0, B1, S0, S1)) (hfew : honeycomblaw08_Few.f K L l1 = some s) (hs3 : XSome3.f L (x.tmod 8) (y.tmod 8) h = some (cx, cy, ch))
    (hbes : honeycombref03_Beside.f K L cx cy ch = some (ls, true)) (hstep : XStep.f L B0 B1 S0 S1 s = some (u, none)) (hls : ls.length ≤ 12)
    (hhs : ∀ q : CL, set_Set_Has.f s q.f0.f0 q.f0.f1 q.f1 = some (decide (q ∈ s))) (hhu : ∀ q : CL, set_Set_Has.f u q.f0.f0 q.f0.f1 q.f1 = some (decide (q ∈ u)))
    (hnx : ∀ v n, 0 ≤ n → n ≤ 63 → honeycombref05_Next.f K L [B0, B1] [S0, S1] ch v n = some (nx ch v n))
    (hbx : -8 ≤ cx ∧ cx ≤ 8) (hby : -8 ≤ cy ∧ cy ≤ 8) (hL : 1 ≤ L ∧ L ≤ 3) (hnb : 0 ≤ nOne L s cx cy ls ∧ nOne L s cx cy ls ≤ 63) (hsl : s.length < 1000000) (hul : u.length < 1000000) :
    Calls Tryd.prog 5 #[.agg #[.int .i64 l, .int .u64 b0, .int .u64 b1, .int .u64 s0, .int .u64 s1], .slice A1 l1.length c1, .agg #[.int .i64 x, .int .i64 y, .int .i64 h]] w
      fun e w' => e = .returned (.bool (decide (mk cx cy ch ∈ u) == nx ch (decide (mk cx cy ch ∈ s)) (nOne L s cx cy ls))) ∧ Below w.heap.size w w' := by
  have HG := Aside0.mk hG
  have HR := Aside0.mk hr
  have HSOME := Aside0.mk hsome
  have HFEW := Aside0.mk hfew
  have HS3 := Aside0.mk hs3
  have HBES := Aside0.mk hbes
  have HSTEP := Aside0.mk hstep
  have HHS := Aside0.mk hhs
  have HHU := Aside0.mk hhu
  have HNX := Aside0.mk hnx
  have HNB := Aside0.mk hnb
  have HAW := Aside0.mk haw
  clear hG hr hsome hfew hs3 hbes hstep hhs hhu hnx hnb haw
  go_enter Tryd.func5, Tryd.ntmps5
  go_wp2_with fail
  obtain ⟨w1, hw1⟩ : ∃ W, W = (w.alloc (RawO l b0 b1 s0 s1)).alloc (RCO x y h) := ⟨_, rfl⟩
  have t1 : w1.heap[w.heap.size]? = some (RawO l b0 b1 s0 s1) := by rw [hw1]; exact blk_alloc (blk_new _ _) _
  have t2 : w1.heap[w.heap.size + 1]? = some (RCO x y h) := by
    have := blk_new (w.alloc (RawO l b0 b1 s0 s1)) (RCO x y h)
    rw [World.size_alloc] at this
    rw [hw1]
    exact this
  have hB1 : Below w.heap.size w w1 := by rw [hw1]; exact below_alloc2 (below_alloc (Below.refl _ _) _) (by simp) _
  rw [← hw1]
  clear hw1
  obtain ⟨g3, hg3⟩ : ∃ g, g = w.heap.size := ⟨_, rfl⟩
  obtain ⟨g5, hg5⟩ : ∃ g, g = w.heap.size + 1 := ⟨_, rfl⟩
  rw [← hg3] at t1
  rw [← hg5] at t2 ⊢
  rw [← hg3]
  have hz1 := hB1.size
  have hl5 := blk_lt t2
  have hg3z : w.heap.size ≤ g3 := by omega
  have hg5z : w.heap.size ≤ g5 := by omega
  have hne35 : g3 ≠ g5 := by omega
  have T1 := Aside0.mk t1
  have T2 := Aside0.mk t2
  have HB1 := Aside0.mk hB1
  clear t1 t2 hB1 hg3 hg5
  refine (honeycomblaw08_awake.calls K true _ (HG.out.below HB1.out) HAW.out rfl).mono ?_
  rintro e w2 ⟨rfl, hb2⟩
  have t1 := blk_below T1.out hb2
  have T2' := Aside0.mk (blk_below T2.out hb2)
  have hz2 := hb2.size
  have HB2 := Aside0.mk (HB1.out.trans (hb2.mono hz1))
  have q0 := blk_cell t1 0
  have q1 := blk_cell t1 1
  have q2 := blk_cell t1 2
  have q3 := blk_cell t1 3
  have q4 := blk_cell t1 4
  simp only [List.getElem?_toArray, List.getElem?_cons_zero, List.getElem?_cons_succ] at q0 q1 q2 q3 q4
  clear t1 hb2 T1 T2 HB1
  go_wp2_with fail
  refine (XSome5.calls l b0 b1 s0 s1 L B0 B1 S0 S1 _ HSOME.out).mono ?_
  rintro e w3 ⟨rfl, hb3⟩
  have T2 := Aside0.mk (blk_below T2'.out hb3)
  have hz3 := hb3.size
  have HB3 := Aside0.mk (HB2.out.trans (hb3.mono (by omega)))
  clear q0 q1 q2 q3 q4 hb3 T2' HB2
  go_wp2_with fail
  obtain ⟨w4, hw4⟩ : ∃ W, W = w3.alloc (TB L B0 B1 S0 S1) := ⟨_, rfl⟩
  have t7 : w4.heap[w3.heap.size]? = some (TB L B0 B1 S0 S1) := by rw [hw4]; exact blk_new _ _
  have hB4 : Below w3.heap.size w3 w4 := by rw [hw4]; exact below_alloc (Below.refl _ _) _
  rw [← hw4]
  obtain ⟨g7, hg7⟩ : ∃ g, g = w3.heap.size := ⟨_, rfl⟩
  rw [← hg7] at t7 ⊢
  have hz4 := hB4.size
  have T7 := Aside0.mk t7
  have T2' := Aside0.mk (blk_below T2.out hB4)
  have HB4 := Aside0.mk (HB3.out.trans (hB4.mono (by omega)))
  have hl7 := blk_lt t7
  have hne75 : g7 ≠ g5 := by have := blk_lt T2.out; omega
  have hg7z : w.heap.size ≤ g7 := by omega
  clear hw4 t7 hB4 hg7 T2 HB3
  refine (honeycomblaw08_Few.calls K L A1 c1 l1 s _ (Kd.C_below HR.out HB4.out) hc HFEW.out).mono ?_
  rintro e w5 ⟨v8, rfl, hR8, hb5⟩
  have T7' := Aside0.mk (blk_below T7.out hb5)
  have t2 := blk_below T2'.out hb5
  have T2 := Aside0.mk t2
  have hz5 := hb5.size
  have HB5 := Aside0.mk (HB4.out.trans (hb5.mono (by omega)))
  have hl5' := blk_lt T2'.out
  have R8 := Aside0.mk (Kd.R_mono (Kd.R_lower (Kd.R_bound hR8) (by omega)) (fun k hk => by have := hk.2.1; omega) : Kd.R k65 65 w5 w.heap.size (fun k => k ≠ g5) v8 s)
  have k7 := blk_cell T7'.out 0
  have k0 := blk_cell t2 0
  have k1 := blk_cell t2 1
  have k2 := blk_cell t2 2
  simp only [List.getElem?_toArray, List.getElem?_cons_zero, List.getElem?_cons_succ] at k7 k0 k1 k2
  clear hR8 hb5 t2 T7 T2' HB4 hl5'
  go_wp2_with fail
  refine (XSome3.calls L (x.tmod 8) (y.tmod 8) h cx cy ch _ HS3.out).mono ?_
  rintro e w6 ⟨rfl, hb6⟩
  have hz6 := hb6.size
  have T7 := Aside0.mk (blk_below T7'.out hb6)
  have T2' := Aside0.mk (blk_below T2.out hb6)
  have HB6 := Aside0.mk (HB5.out.trans (hb6.mono (by omega)))
  have R8' := Aside0.mk (Kd.R_below R8.out hb6)
  clear k7 k0 k1 k2 hb6 T7' T2 HB5 R8
  go_wp2_with fail
  refine (honeycomblaw03_Told.calls cx cy ch cx cy ch _ rfl).mono ?_
  rintro e w7 ⟨rfl, hb7⟩
  have hz7 := hb7.size
  have T7' := Aside0.mk (blk_below T7.out hb7)
  have t2 := blk_below T2'.out hb7
  have T2 := Aside0.mk t2
  have HB7 := Aside0.mk (HB6.out.trans (hb7.mono (by omega)))
  have R8 := Aside0.mk (Kd.R_below R8'.out hb7)
  have c0 := blk_cell t2 0
  have c1 := blk_cell t2 1
  have c2 := blk_cell t2 2
  have f0 := blk_frozen t2 0
  have f1 := blk_frozen t2 1
  have f2 := blk_frozen t2 2
  have k7 := blk_cell T7'.out 0
  simp only [List.getElem?_toArray, List.getElem?_cons_zero, List.getElem?_cons_succ] at c0 c1 c2 k7
  clear hb7 T7 T2' HB6 R8' t2
  go_wp2_with fail
  obtain ⟨w8, hw8⟩ : ∃ W, W = ((w7.setCell ⟨g5, 0, none⟩ (.int .i64 cx)).setCell ⟨g5, 1, none⟩ (.int .i64 cy)).setCell ⟨g5, 2, none⟩ (.int .i64 ch) := ⟨_, rfl⟩
  have t2 : w8.heap[g5]? = some (RCO cx cy ch) := by rw [hw8]; exact blk_set (blk_set (blk_set T2.out 0 _) 1 _) 2 _
  have t7 : w8.heap[g7]? = some (TB L B0 B1 S0 S1) := by
    rw [hw8]
    exact (Below.heap_setCell _ ⟨g5, 2, none⟩ _ g7 hne75).trans ((Below.heap_setCell _ ⟨g5, 1, none⟩ _ g7 hne75).trans ((Below.heap_setCell _ ⟨g5, 0, none⟩ _ g7 hne75).trans T7'.out))
  have hb8 : Below w.heap.size w w8 := by
    rw [hw8]
    exact Below.setCell (p := ⟨g5, 2, none⟩) (Below.setCell (p := ⟨g5, 1, none⟩) (Below.setCell (p := ⟨g5, 0, none⟩) HB7.out hg5z _) hg5z _) hg5z _
  have r8 : Kd.R k65 65 w8 w.heap.size (fun k => k ≠ g5) v8 s := by
    rw [hw8]
    exact Kd.R_far (p := ⟨g5, 2, none⟩) (Kd.R_far (p := ⟨g5, 1, none⟩) (Kd.R_far (p := ⟨g5, 0, none⟩) R8.out (fun k hk => hk) _) (fun k hk => hk) _) (fun k hk => hk) _
  rw [← hw8]
  obtain ⟨A8, c8, rfl, hl8, hC8⟩ := Kd.R_reads r8
  have C8 := Aside0.mk hC8
  have T5 := Aside0.mk t2
  have T7 := Aside0.mk t7
  have HB8 := Aside0.mk hb8
  clear hw8 c0 c1 c2 f0 f1 f2 k7 T2 T7' R8 HB7 t2 t7 hb8 r8 hC8
  refine (honeycombref03_Beside.calls K L cx cy ch ls true _ HBES.out).mono ?_
  rintro e w9 ⟨v9, rfl, hR9, hb9⟩
  obtain ⟨A9, c9, rfl, hl9, hC9⟩ := Kd.R_reads hR9
  have C9 := Aside0.mk hC9
  have C8' := Aside0.mk (Kd.C_below C8.out hb9)
  have t7 := blk_below T7.out hb9
  have T5' := Aside0.mk (blk_below T5.out hb9)
  have T7' := Aside0.mk t7
  have HB9 := Aside0.mk (HB8.out.trans (hb9.mono HB8.out.size))
  have q0 := blk_cell t7 0
  have q1 := blk_cell t7 1
  have q2 := blk_cell t7 2
  have q3 := blk_cell t7 3
  have q4 := blk_cell t7 4
  simp only [List.getElem?_toArray, List.getElem?_cons_zero, List.getElem?_cons_succ] at q0 q1 q2 q3 q4
  clear hR9 hC9 hb9 C8 T5 T7 HB8 t7
  go_wp2_with fail
  refine (XStep.calls L B0 B1 S0 S1 A8 c8 s u none _ (HG.out.below HB9.out) C8'.out hl8 HSTEP.out).mono ?_
  rintro e w10 ⟨v11, rfl, hR11, hb10⟩
  obtain ⟨A11, c11, rfl, hl11, hC11⟩ := Kd.R_reads hR11
  have C11 := Aside0.mk hC11
  have C8 := Aside0.mk (Kd.C_below C8'.out hb10)
  have C9' := Aside0.mk (Kd.C_below C9.out hb10)
  have t7 := blk_below T7'.out hb10
  have T5 := Aside0.mk (blk_below T5'.out hb10)
  have T7 := Aside0.mk t7
  have HB10 := Aside0.mk (HB9.out.trans (hb10.mono HB9.out.size))
  clear q0 q1 q2 q3 q4
  have q0 := blk_cell t7 0
  simp only [List.getElem?_toArray, List.getElem?_cons_zero, List.getElem?_cons_succ] at q0
  simp only [errW_none]
  clear hR11 hC11 hb10 C8' C9 T5' T7' HB9 t7
  have h10 := HB10.out.size
  have hU : set_Set_Has.f u cx cy ch = some (decide (mk cx cy ch ∈ u)) := HHU.out (mk cx cy ch)
  have hS8 : set_Set_Has.f s cx cy ch = some (decide (mk cx cy ch ∈ s)) := HHS.out (mk cx cy ch)
  have hasu := fun W hC => set_Set_Has.calls A11 c11 u cx cy ch _ W hC hl11 hU
  have hass := fun W hC => set_Set_Has.calls A8 c8 s cx cy ch _ W hC hl8 hS8
  have HASU := Aside0.mk hasu
  have HASS := Aside0.mk hass
  clear hasu hass hU hS8
  by_cases h1 : L = 1
  · subst h1
    go_wp2_with fail
    refine (XSix.calls 1 0 0 1 (-1) 1 (-1) 0 0 (-1) 1 (-1) _ (HG.out.below HB10.out) rfl).mono ?_
    rintro e w11 ⟨rfl, hb11⟩
    have T5' := Aside0.mk (blk_below T5.out hb11)
    have T7' := Aside0.mk (blk_below T7.out hb11)
    have HB11 := Aside0.mk hb11
    clear q0 hb11
    go_wp2_with fail
    go_loopw [62, 13] (fun iv nv wr => ∃ k : Nat, k ≤ 6 ∧ iv = .int .i64 k ∧ nv = .int .i64 (((List.range 6).take k).foldl (stepO s cx cy) 0) ∧ wr.heap[g5]? = some (RCO cx cy ch) ∧ wr.heap[g7]? = some (TB 1 B0 B1 S0 S1) ∧ Below w10.heap.size w10 wr) (fun iv _ _ => 6 - (intOf iv).toNat)
    case atStart => exact ⟨0, by omega, rfl, rfl, T5'.out, T7'.out, HB11.out⟩
    case round =>
      obtain ⟨k, hk, rfl, rfl, ht5, ht7, hbr⟩ := hrel
      have T5r := Aside0.mk ht5
      have T7r := Aside0.mk ht7
      have HBr := Aside0.mk hbr
      clear T5' T7' HB11 ht7 hbr
      by_cases hk6 : k < 6
      · have hix := sx_index k hk6
        obtain ⟨e1, e2, e3, e4⟩ := sx_bd k
        have hwa : IntKind.i64.wrap (cx + sxA k) = cx + sxA k := by rw [IntKind.wrap_i64]; omega
        have hwb : IntKind.i64.wrap (cy + sxB k) = cy + sxB k := by rw [IntKind.wrap_i64]; omega
        have hwp : IntKind.i64.wrap (2 ^ k) = 2 ^ k := by
          have hkk : k = 0 ∨ k = 1 ∨ k = 2 ∨ k = 3 ∨ k = 4 ∨ k = 5 := by omega
          rcases hkk with rfl | rfl | rfl | rfl | rfl | rfl <;> decide
        have hnx := range_take6 k hk6 (stepO s cx cy) 0
        obtain ⟨N, hN⟩ : ∃ N, N = ((List.range 6).take k).foldl (stepO s cx cy) 0 := ⟨_, rfl⟩
        rw [← hN] at hnx ⊢
        obtain ⟨B, hBq⟩ : ∃ B, B = decide (mk (cx + sxA k) (cy + sxB k) 0 ∈ s) := ⟨_, rfl⟩
        have hhas := fun W hC => set_Set_Has.calls A8 c8 s (cx + sxA k) (cy + sxB k) 0 B W hC hl8 (by rw [hBq]; exact HHS.out (mk (cx + sxA k) (cy + sxB k) 0))
        have HHAS := Aside0.mk hhas
        have hst : stepO s cx cy N k = if B = true then Go.bits .or .i64 N (2 ^ k) else N := by
          unfold stepO
          rw [hBq]
          simp only [decide_eq_true_eq]
        rw [hst] at hnx
        have HNX2 := Aside0.mk hnx
        have k50 := blk_cell ht5 0
        have k51 := blk_cell ht5 1
        simp only [List.getElem?_toArray, List.getElem?_cons_zero, List.getElem?_cons_succ] at k50 k51
        clear hN hBq hhas hst hnx e1 e2 e3 e4 ht5 k50 k51
        go_upto_region 15 with (fail)
        obtain ⟨wa, hwa'⟩ : ∃ W, W = wr.alloc (.cells #[.int .i64 (sxA k), .int .i64 (sxB k)] 63) := ⟨_, rfl⟩
        have hba : Below wr.heap.size wr wa := by rw [hwa']; exact below_alloc (Below.refl _ _) _
        have p15 : wa.heap[wr.heap.size]? = some (.cells #[.int .i64 (sxA k), .int .i64 (sxB k)] 63 (0, 0)) := by rw [hwa']; exact blk_new _ _
        have p5 := blk_below T5r.out hba
        rw [← hwa']
        have k50 := blk_cell p5 0
        have k51 := blk_cell p5 1
        have k60 := blk_cell p15 0
        have k61 := blk_cell p15 1
        simp only [List.getElem?_toArray, List.getElem?_cons_zero, List.getElem?_cons_succ] at k50 k51 k60 k61
        have HBa := Aside0.mk (HBr.out.trans (hba.mono HBr.out.size))
        clear hwa' p15 p5
        go_wp2_with fail
        refine (HHAS.out _ (Kd.C_below C8.out HBa.out)).mono ?_
        rintro e w12 ⟨rfl, hb12⟩
        have hb13 : Below wr.heap.size wr w12 := hba.trans (hb12.mono hba.size)
        have T5s := Aside0.mk (blk_below T5r.out hb13)
        have T7s := Aside0.mk (blk_below T7r.out hb13)
        have HBs := Aside0.mk (HBr.out.trans (hb13.mono HBr.out.size))
        clear k50 k51 k60 k61 hba HBa hb12 hb13 T5r T7r HBr
        cases B with
        | true =>
          go_wp2
          go_roundw
          case rel => exact ⟨k + 1, by omega, by go_num, by have e := HNX2.out; simp only [↓reduceIte] at e; rw [e], T5s.out, T7s.out, HBs.out⟩
          case measure => simp [intOf]; omega
        | false =>
          go_wp2
          go_roundw
          case rel => exact ⟨k + 1, by omega, by go_num, by have e := HNX2.out; simp only [Bool.false_eq_true, ↓reduceIte] at e; rw [e], T5s.out, T7s.out, HBs.out⟩
          case measure => simp [intOf]; omega
      · obtain rfl : k = 6 := by omega
        obtain ⟨N, hN⟩ : ∃ N, N = ((List.range 6).take 6).foldl (stepO s cx cy) 0 := ⟨_, rfl⟩
        have hNO : nOne 1 s cx cy ls = N := by rw [nOne, if_pos rfl, hN]; rfl
        rw [← hN]
        clear ht5 hN
        have hnxf : honeycombref05_Next.f K 1 [B0, B1] [S0, S1] ch (decide (mk cx cy ch ∈ s)) N = some (nx ch (decide (mk cx cy ch ∈ s)) N) := by rw [← hNO]; exact HNX.out _ _ HNB.out.1 HNB.out.2
        have hnext := fun Aa ca Ab cb W h0 h1 h2 h3 => honeycombref05_Next.calls K 1 Aa ca [B0, B1] Ab cb [S0, S1] ch _ N _ W h0 h1 h2 h3 hnxf
        have HNEXT := Aside0.mk hnext
        have HQ := Aside0.mk hNO
        clear hNO hnxf hnext
        go_upto_region 24 with (fail)
        have HBW := Aside0.mk (show Below w10.heap.size w10 wr.drew from below_drew HBr.out)
        have K5 := Aside0.mk (show wr.drew.heap[g5]? = some (RCO cx cy ch) from T5r.out)
        have K7 := Aside0.mk (show wr.drew.heap[g7]? = some (TB 1 B0 B1 S0 S1) from T7r.out)
        have hS : SO g5 g7 cx cy ch 1 B0 B1 S0 S1 wr.drew := SO.of K5.out K7.out
        clear T5r T7r HBr
        go_region_held3 (fun W => W.cell? ⟨g5, 0, none⟩ = some (.int .i64 cx) ∧ W.cell? ⟨g5, 1, none⟩ = some (.int .i64 cy) ∧ W.cell? ⟨g5, 2, none⟩ = some (.int .i64 ch) ∧ W.cell? ⟨g7, 0, none⟩ = some (.int .i64 1) ∧ W.cell? ⟨g7, 1, none⟩ = some (.int .u64 B0) ∧ W.cell? ⟨g7, 2, none⟩ = some (.int .u64 B1) ∧ W.cell? ⟨g7, 3, none⟩ = some (.int .u64 S0) ∧ W.cell? ⟨g7, 4, none⟩ = some (.int .u64 S1))
          (assumption)
          (first
            | (go_at_call 34; with_reducible refine (honeycomblaw03_Own.calls cx cy ch cx cy ch _ rfl).mono ?_; rintro e wn ⟨rfl, hbn⟩
               have HB_ := Aside0.mk (HBW.out.trans (hbn.mono HBW.out.size)); have K5_ := Aside0.mk (blk_below K5.out hbn); have K7_ := Aside0.mk (blk_below K7.out hbn); have hS_ : SO g5 g7 cx cy ch 1 B0 B1 S0 S1 wn := SO.of K5_.out K7_.out
               (try (have V0_ := Aside0.mk (Kd.V_below V0.out hbn); have V1_ := Aside0.mk (Kd.V_below V1.out hbn); clear V0 V1; have V0 := V0_; have V1 := V1_; clear V0_ V1_))
               clear HBW K5 K7 hS hbn; have HBW := HB_; have K5 := K5_; have K7 := K7_; have hS := hS_; clear HB_ K5_ K7_ hS_)
            | (go_at_call 33; with_reducible refine (HASU.out _ (Kd.C_below C11.out HBW.out)).mono ?_; rintro e wn ⟨rfl, hbn⟩
               have HB_ := Aside0.mk (HBW.out.trans (hbn.mono HBW.out.size)); have K5_ := Aside0.mk (blk_below K5.out hbn); have K7_ := Aside0.mk (blk_below K7.out hbn); have hS_ : SO g5 g7 cx cy ch 1 B0 B1 S0 S1 wn := SO.of K5_.out K7_.out
               clear HBW K5 K7 hS hbn; have HBW := HB_; have K5 := K5_; have K7 := K7_; have hS := hS_; clear HB_ K5_ K7_ hS_)
            | (go_at_call 33; with_reducible refine (HASS.out _ (Kd.C_below C8.out HBW.out)).mono ?_; rintro e wn ⟨rfl, hbn⟩
               have HB_ := Aside0.mk (HBW.out.trans (hbn.mono HBW.out.size)); have K5_ := Aside0.mk (blk_below K5.out hbn); have K7_ := Aside0.mk (blk_below K7.out hbn); have hS_ : SO g5 g7 cx cy ch 1 B0 B1 S0 S1 wn := SO.of K5_.out K7_.out
               have V0_ := Aside0.mk (Kd.V_below V0.out hbn); have V1_ := Aside0.mk (Kd.V_below V1.out hbn); clear V0 V1; have V0 := V0_; have V1 := V1_; clear V0_ V1_
               clear HBW K5 K7 hS hbn; have HBW := HB_; have K5 := K5_; have K7 := K7_; have hS := hS_; clear HB_ K5_ K7_ hS_)
            | (go_at_call 27; with_reducible refine (XTold5.calls 1 B0 B1 S0 S1 1 [B0, B1] [S0, S1] _ rfl).mono ?_; rintro e wn ⟨v0, v1, rfl, hv0, hv1, hbn⟩
               have HB_ := Aside0.mk (HBW.out.trans (hbn.mono HBW.out.size)); have K5_ := Aside0.mk (blk_below K5.out hbn); have K7_ := Aside0.mk (blk_below K7.out hbn); have hS_ : SO g5 g7 cx cy ch 1 B0 B1 S0 S1 wn := SO.of K5_.out K7_.out
               obtain ⟨Av0, cv0, rfl⟩ := Kd.V_slice hv0; obtain ⟨Av1, cv1, rfl⟩ := Kd.V_slice hv1
               have V0 := Aside0.mk hv0; have V1 := Aside0.mk hv1
               clear HBW K5 K7 hS hbn hv0 hv1; have HBW := HB_; have K5 := K5_; have K7 := K7_; have hS := hS_; clear HB_ K5_ K7_ hS_)
            | (go_at_call 35; go_loud (refine (HNEXT.out Av0 cv0 Av1 cv1 _ (Kd.V_reads' V0.out).2.2 (Kd.V_reads' V0.out).2.1 (Kd.V_reads' V1.out).2.2 (Kd.V_reads' V1.out).2.1).mono ?_); rintro e wn ⟨rfl, hbn⟩
               have HB_ := Aside0.mk (HBW.out.trans (hbn.mono HBW.out.size)); have K5_ := Aside0.mk (blk_below K5.out hbn); have K7_ := Aside0.mk (blk_below K7.out hbn); have hS_ : SO g5 g7 cx cy ch 1 B0 B1 S0 S1 wn := SO.of K5_.out K7_.out
               clear HBW K5 K7 hS hbn; have HBW := HB_; have K5 := K5_; have K7 := K7_; have hS := hS_; clear HB_ K5_ K7_ hS_))
        all_goals (
          clear hS
          go_wp2
          go_ret
          exact ⟨by rw [HQ.out]; rfl, HB10.out.trans (HBW.out.mono HB10.out.size)⟩)

  · have hLb : (L == 1) = false := by simpa using h1
    go_wp2_with fail
    go_loopw [87, 13] (fun iv nv wr => ∃ k : Nat, k ≤ ls.length ∧ iv = .int .i64 k ∧ nv = .int .i64 ((ls.take k).foldl (stepT s) 0) ∧ wr.heap[g5]? = some (RCO cx cy ch) ∧ wr.heap[g7]? = some (TB L B0 B1 S0 S1) ∧ Below w10.heap.size w10 wr) (fun iv _ _ => ls.length - (intOf iv).toNat)
    case atStart => exact ⟨0, by omega, rfl, rfl, T5.out, T7.out, Below.refl _ _⟩
    case round =>
      obtain ⟨k, hk, rfl, rfl, ht5, ht7, hbr⟩ := hrel
      have T5r := Aside0.mk ht5
      have T7r := Aside0.mk ht7
      have HBr := Aside0.mk hbr
      have C9r := Aside0.mk (Kd.C_below C9'.out hbr)
      clear q0 ht5 ht7 hbr
      by_cases hk6 : k < ls.length
      · obtain ⟨ad, hAd, a0, a1, a2⟩ := at_T60 C9r.out k (by omega) (by omega)
        rw [Int.toNat_natCast] at a0 a1 a2
        have hx : rd_T60 ls k = ls[k] := by simp [rd_T60, hk6]
        rw [hx] at a0 a1 a2
        have hnx := foldl_take (stepT s) 0 ls k hk6
        have hbk := stepT_bd s (ls.take k) 0 (by omega)
        rw [List.length_take, Nat.min_eq_left (Nat.le_of_lt hk6)] at hbk
        obtain ⟨N, hN⟩ : ∃ N, N = (ls.take k).foldl (stepT s) 0 := ⟨_, rfl⟩
        rw [← hN] at hnx hbk ⊢
        obtain ⟨d, hd⟩ : ∃ d, d = ls[k] := ⟨_, rfl⟩
        rw [← hd] at a0 a1 a2 hnx
        obtain ⟨B, hBq⟩ : ∃ B, B = decide (mk d.f0 d.f1 d.f2 ∈ s) := ⟨_, rfl⟩
        have hhas := fun W hC => set_Set_Has.calls A8 c8 s d.f0 d.f1 d.f2 B W hC hl8 (by rw [hBq]; exact HHS.out (mk d.f0 d.f1 d.f2))
        have HHAS := Aside0.mk hhas
        have hst : stepT s N d = if B = true then N + 1 else N := by
          unfold stepT
          rw [hBq]
          simp only [decide_eq_true_eq]
        rw [hst] at hnx
        have HNX2 := Aside0.mk hnx
        have hwn : IntKind.i64.wrap (N + 1) = N + 1 := by rw [IntKind.wrap_i64]; omega
        clear hN hd hx hBq hhas hst hnx hbk
        subst hAd
        go_wp2_with fail
        have hba : Below wr.heap.size wr (wr.alloc (RCO d.f0 d.f1 d.f2)) := below_alloc (Below.refl _ _) _
        have HBa := Aside0.mk (HBr.out.trans (hba.mono HBr.out.size))
        refine (honeycomblaw03_Own.calls d.f0 d.f1 d.f2 d.f0 d.f1 d.f2 _ rfl).mono ?_
        rintro e w12 ⟨rfl, hb12⟩
        have hb13 : Below wr.heap.size wr w12 := hba.trans (hb12.mono hba.size)
        have HBb := Aside0.mk (HBr.out.trans (hb13.mono HBr.out.size))
        have hb14 := Aside0.mk hb13
        clear a0 a1 a2 hba HBa hb12 hb13
        go_wp2_with fail
        refine (HHAS.out _ (Kd.C_below C8.out HBb.out)).mono ?_
        rintro e w13 ⟨rfl, hb15⟩
        have hb16 : Below wr.heap.size wr w13 := hb14.out.trans (hb15.mono hb14.out.size)
        have T5s := Aside0.mk (blk_below T5r.out hb16)
        have T7s := Aside0.mk (blk_below T7r.out hb16)
        have HBs := Aside0.mk (HBr.out.trans (hb16.mono HBr.out.size))
        clear HBb hb14 hb15 hb16 T5r T7r HBr C9r
        cases B with
        | true =>
          go_wp2
          go_roundw
          case rel => exact ⟨k + 1, by omega, by go_num, by have e := HNX2.out; simp only [↓reduceIte] at e; rw [e], T5s.out, T7s.out, HBs.out⟩
          case measure => simp [intOf]; omega
        | false =>
          go_wp2
          go_roundw
          case rel => exact ⟨k + 1, by omega, by go_num, by have e := HNX2.out; simp only [Bool.false_eq_true, ↓reduceIte] at e; rw [e], T5s.out, T7s.out, HBs.out⟩
          case measure => simp [intOf]; omega
      · obtain rfl : k = ls.length := by omega
        obtain ⟨N, hN⟩ : ∃ N, N = (ls.take ls.length).foldl (stepT s) 0 := ⟨_, rfl⟩
        have hNO : nOne L s cx cy ls = N := by rw [nOne, if_neg h1, hN, List.take_length]
        rw [← hN]
        clear hN C9r
        have hnxf : honeycombref05_Next.f K L [B0, B1] [S0, S1] ch (decide (mk cx cy ch ∈ s)) N = some (nx ch (decide (mk cx cy ch ∈ s)) N) := by rw [← hNO]; exact HNX.out _ _ HNB.out.1 HNB.out.2
        have hnext := fun Aa ca Ab cb W h0 h1 h2 h3 => honeycombref05_Next.calls K L Aa ca [B0, B1] Ab cb [S0, S1] ch _ N _ W h0 h1 h2 h3 hnxf
        have HNEXT := Aside0.mk hnext
        have HQ := Aside0.mk hNO
        clear hNO hnxf hnext
        go_upto_region 24 with (fail)
        have HBW := Aside0.mk (show Below w10.heap.size w10 wr.drew from below_drew HBr.out)
        have K5 := Aside0.mk (show wr.drew.heap[g5]? = some (RCO cx cy ch) from T5r.out)
        have K7 := Aside0.mk (show wr.drew.heap[g7]? = some (TB L B0 B1 S0 S1) from T7r.out)
        have hS : SO g5 g7 cx cy ch L B0 B1 S0 S1 wr.drew := SO.of K5.out K7.out
        clear T5r T7r HBr
        go_region_held3 (fun W => W.cell? ⟨g5, 0, none⟩ = some (.int .i64 cx) ∧ W.cell? ⟨g5, 1, none⟩ = some (.int .i64 cy) ∧ W.cell? ⟨g5, 2, none⟩ = some (.int .i64 ch) ∧ W.cell? ⟨g7, 0, none⟩ = some (.int .i64 L) ∧ W.cell? ⟨g7, 1, none⟩ = some (.int .u64 B0) ∧ W.cell? ⟨g7, 2, none⟩ = some (.int .u64 B1) ∧ W.cell? ⟨g7, 3, none⟩ = some (.int .u64 S0) ∧ W.cell? ⟨g7, 4, none⟩ = some (.int .u64 S1))
          (assumption)
          (first
            | (go_at_call 34; with_reducible refine (honeycomblaw03_Own.calls cx cy ch cx cy ch _ rfl).mono ?_; rintro e wn ⟨rfl, hbn⟩
               have HB_ := Aside0.mk (HBW.out.trans (hbn.mono HBW.out.size)); have K5_ := Aside0.mk (blk_below K5.out hbn); have K7_ := Aside0.mk (blk_below K7.out hbn); have hS_ : SO g5 g7 cx cy ch L B0 B1 S0 S1 wn := SO.of K5_.out K7_.out
               (try (have V0_ := Aside0.mk (Kd.V_below V0.out hbn); have V1_ := Aside0.mk (Kd.V_below V1.out hbn); clear V0 V1; have V0 := V0_; have V1 := V1_; clear V0_ V1_))
               clear HBW K5 K7 hS hbn; have HBW := HB_; have K5 := K5_; have K7 := K7_; have hS := hS_; clear HB_ K5_ K7_ hS_)
            | (go_at_call 33; with_reducible refine (HASU.out _ (Kd.C_below C11.out HBW.out)).mono ?_; rintro e wn ⟨rfl, hbn⟩
               have HB_ := Aside0.mk (HBW.out.trans (hbn.mono HBW.out.size)); have K5_ := Aside0.mk (blk_below K5.out hbn); have K7_ := Aside0.mk (blk_below K7.out hbn); have hS_ : SO g5 g7 cx cy ch L B0 B1 S0 S1 wn := SO.of K5_.out K7_.out
               clear HBW K5 K7 hS hbn; have HBW := HB_; have K5 := K5_; have K7 := K7_; have hS := hS_; clear HB_ K5_ K7_ hS_)
            | (go_at_call 33; with_reducible refine (HASS.out _ (Kd.C_below C8.out HBW.out)).mono ?_; rintro e wn ⟨rfl, hbn⟩
               have HB_ := Aside0.mk (HBW.out.trans (hbn.mono HBW.out.size)); have K5_ := Aside0.mk (blk_below K5.out hbn); have K7_ := Aside0.mk (blk_below K7.out hbn); have hS_ : SO g5 g7 cx cy ch L B0 B1 S0 S1 wn := SO.of K5_.out K7_.out
               have V0_ := Aside0.mk (Kd.V_below V0.out hbn); have V1_ := Aside0.mk (Kd.V_below V1.out hbn); clear V0 V1; have V0 := V0_; have V1 := V1_; clear V0_ V1_
               clear HBW K5 K7 hS hbn; have HBW := HB_; have K5 := K5_; have K7 := K7_; have hS := hS_; clear HB_ K5_ K7_ hS_)
            | (go_at_call 27; with_reducible refine (XTold5.calls L B0 B1 S0 S1 L [B0, B1] [S0, S1] _ rfl).mono ?_; rintro e wn ⟨v0, v1, rfl, hv0, hv1, hbn⟩
               have HB_ := Aside0.mk (HBW.out.trans (hbn.mono HBW.out.size)); have K5_ := Aside0.mk (blk_below K5.out hbn); have K7_ := Aside0.mk (blk_below K7.out hbn); have hS_ : SO g5 g7 cx cy ch L B0 B1 S0 S1 wn := SO.of K5_.out K7_.out
               obtain ⟨Av0, cv0, rfl⟩ := Kd.V_slice hv0; obtain ⟨Av1, cv1, rfl⟩ := Kd.V_slice hv1
               have V0 := Aside0.mk hv0; have V1 := Aside0.mk hv1
               clear HBW K5 K7 hS hbn hv0 hv1; have HBW := HB_; have K5 := K5_; have K7 := K7_; have hS := hS_; clear HB_ K5_ K7_ hS_)
            | (go_at_call 35; go_loud (refine (HNEXT.out Av0 cv0 Av1 cv1 _ (Kd.V_reads' V0.out).2.2 (Kd.V_reads' V0.out).2.1 (Kd.V_reads' V1.out).2.2 (Kd.V_reads' V1.out).2.1).mono ?_); rintro e wn ⟨rfl, hbn⟩
               have HB_ := Aside0.mk (HBW.out.trans (hbn.mono HBW.out.size)); have K5_ := Aside0.mk (blk_below K5.out hbn); have K7_ := Aside0.mk (blk_below K7.out hbn); have hS_ : SO g5 g7 cx cy ch L B0 B1 S0 S1 wn := SO.of K5_.out K7_.out
               clear HBW K5 K7 hS hbn; have HBW := HB_; have K5 := K5_; have K7 := K7_; have hS := hS_; clear HB_ K5_ K7_ hS_))
        all_goals (
          clear hS
          go_wp2
          go_ret
          exact ⟨by rw [HQ.out]; rfl, HB10.out.trans (HBW.out.mono HB10.out.size)⟩)
end Go.Proofs.YtaeenefdbahfoaaDoor
namespace Go.Proofs.YtaeenefdbahfoaaDoor
set_option linter.unusedSimpArgs false
set_option linter.unusedVariables false
open Go.RowKit Go.Proofs.YtaeenefdbahfoaaDoorW.PrintWords Go.Proofs.YtaeenefdbahfoaaDoorW.PrintLast Go.Proofs.YtaeenefdbahfoaaDoorW.PrintMore
open H
open Go.RowKit
theorem bit_l0 : ∀ (d k : Nat) (i : Nat) (n : Nat) (x : Nat), i + d = n → n < 1000 → x < 18446744073709551616 → d < k → honeycombref05_bit.l0 k (x : Int) (n : Int) (i : Int) = some (((x / 2 ^ d % 2 : Nat) : Int)) := by
  intro d
  induction d with
  | zero =>
    intro k i n x hi hn hx hk
    obtain ⟨k, rfl⟩ : ∃ m, k = m + 1 := ⟨k - 1, by omega⟩
    simp only [honeycombref05_bit.l0]
    rw [if_neg (by omega), Int.tmod_eq_emod_of_nonneg (by omega)]
    have e : ((x : Int) % 2) = ((x % 2 : Nat) : Int) := by omega
    rw [e, w64i _ (by omega) (by omega), Nat.pow_zero, Nat.div_one]
  | succ d ih =>
    intro k i n x hi hn hx hk
    obtain ⟨k, rfl⟩ : ∃ m, k = m + 1 := ⟨k - 1, by omega⟩
    simp only [honeycombref05_bit.l0]
    have e : Int.tdiv (x : Int) 2 = ((x / 2 : Nat) : Int) := by rw [Int.tdiv_eq_ediv_of_nonneg (by omega)]; omega
    rw [if_pos (by omega), e, u64N _ (by omega), w64i ((i : Int) + 1) (by omega) (by omega)]
    have := ih k (i + 1) n (x / 2) (by omega) hn (by omega) (by omega)
    simp only [Int.natCast_add, Int.cast_ofNat_Int] at this
    rw [this, Nat.div_div_eq_div_mul, ← Nat.pow_succ']
theorem bit_f (K x n : Nat) (hx : x < 18446744073709551616) (hn : n < 64) (hK : 64 ≤ K) : honeycombref05_bit.f K (x : Int) (n : Int) = some (((x / 2 ^ n % 2 : Nat) : Int)) := by
  unfold honeycombref05_bit.f
  have := bit_l0 n K 0 n x (by omega) (by omega) hx (by omega)
  exact this
theorem nxB_is (x n : Nat) (hx : x < 18446744073709551616) : nxB (x : Int) (n : Int) = (((x / 2 ^ n % 2 : Nat) : Int) == 1) := by
  unfold nxB
  have e : (x : Int) / 2 ^ ((n : Nat) : Int).toNat = ((x / 2 ^ n : Nat) : Int) := by simp
  have hlt : x / 2 ^ n < 18446744073709551616 := Nat.lt_of_le_of_lt (Nat.div_le_self _ _) hx
  have := andN (x / 2 ^ n) 1 hlt (by decide)
  rw [show ((1 : Nat) : Int) = 1 from rfl] at this
  rw [e, this, Nat.and_one_is_mod]
theorem rnext_f (K : Nat) (L : Int) (b0 b1 s0 s1 : Nat) (half : Int) (live : Bool) (n : Int) (hb0 : b0 < 18446744073709551616) (hb1 : b1 < 18446744073709551616) (hs0 : s0 < 18446744073709551616) (hs1 : s1 < 18446744073709551616) (hh : half = 0 ∨ half = 1) (h0 : 0 ≤ n) (h1 : n ≤ 63) (hK : 65 ≤ K) :
    honeycombref05_Next.f K L [(b0 : Int), (b1 : Int)] [(s0 : Int), (s1 : Int)] half live n = some (nxtV b0 b1 s0 s1 half live n) := by
  obtain ⟨m, rfl⟩ := Int.eq_ofNat_of_zero_le h0
  obtain ⟨k, rfl⟩ : ∃ k, K = k + 1 := ⟨K - 1, by omega⟩
  have hd : decide ((m : Int) > 63) = false := decide_eq_false (by omega)
  unfold honeycombref05_Next.f nxtV
  rw [if_neg (by omega), if_neg (by omega), if_neg (by omega), if_neg (by omega), hd]
  simp only [honeycombref05_Next.j0]
  rw [if_neg (by decide)]
  rcases hh with rfl | rfl
  · cases live
    · rw [if_neg (by decide), if_pos (by omega), if_pos (by simp), if_neg (by decide), if_pos rfl, show rd [(b0 : Int), (b1 : Int)] 0 = (b0 : Int) from rfl, bit_f k b0 m hb0 (by omega) (by omega), nxB_is b0 m hb0]
      rfl
    · rw [if_pos rfl, if_pos (by omega), if_pos (by simp), if_pos rfl, if_pos rfl, show rd [(s0 : Int), (s1 : Int)] 0 = (s0 : Int) from rfl, bit_f k s0 m hs0 (by omega) (by omega), nxB_is s0 m hs0]
      rfl
  · cases live
    · rw [if_neg (by decide), if_pos (by omega), if_pos (by simp), if_neg (by decide), if_neg (by decide), show rd [(b0 : Int), (b1 : Int)] 1 = (b1 : Int) from rfl, bit_f k b1 m hb1 (by omega) (by omega), nxB_is b1 m hb1]
      rfl
    · rw [if_pos rfl, if_pos (by omega), if_pos (by simp), if_pos rfl, if_neg (by decide), show rd [(s0 : Int), (s1 : Int)] 1 = (s1 : Int) from rfl, bit_f k s1 m hs1 (by omega) (by omega), nxB_is s1 m hs1]
      rfl
/-- the law's number is the neighbourhood -/
theorem hex_fold (s : List CL) (q : CL) (hq : q.f1 = 0) (ks : List Nat) (hks : ∀ k ∈ ks, k < 6) : ∀ n : Int, 0 ≤ n → n ≤ 63 → (0 ≤ ks.foldl (stepO s q.f0.f0 q.f0.f1) n ∧ ks.foldl (stepO s q.f0.f0 q.f0.f1) n ≤ 63) ∧ ∀ j, j < 6 → bitOf (ks.foldl (stepO s q.f0.f0 q.f0.f1) n) j = (bitOf n j || ks.any fun k => decide (k = j) && decide (hexQ q k ∈ s)) := by
  induction ks with
  | nil => intro n h0 h1; exact ⟨⟨h0, h1⟩, fun j _ => by simp⟩
  | cons k ks ih =>
    intro n h0 h1
    have hk := hks k List.mem_cons_self
    have ih2 := ih (fun k hk => hks k (List.mem_cons_of_mem _ hk))
    rw [List.foldl_cons]
    have hqe : mk (q.f0.f0 + sxA k) (q.f0.f1 + sxB k) 0 = hexQ q k := rfl
    unfold stepO
    rw [hqe]
    by_cases hm : hexQ q k ∈ s
    · rw [if_pos hm]
      obtain ⟨b1, b2⟩ := or63' n h0 h1 k hk
      obtain ⟨i1, i2⟩ := ih2 _ b1 b2
      refine ⟨i1, fun j hj => ?_⟩
      have := i2 j hj
      unfold stepO at this
      rw [this, or_bit' n h0 h1 k j hk hj, List.any_cons, decide_eq_true hm, Bool.and_true, Bool.or_assoc]
    · rw [if_neg hm]
      obtain ⟨i1, i2⟩ := ih2 n h0 h1
      refine ⟨i1, fun j hj => ?_⟩
      have := i2 j hj
      unfold stepO at this
      rw [this, List.any_cons, decide_eq_false hm, Bool.and_false, Bool.false_or]
theorem nOne_is (L : Int) (s : List CL) (q : CL) (hq : hOK L q.f1) : nOne L s q.f0.f0 q.f0.f1 ((offs L q.f1).map (shR q.f0.f0 q.f0.f1)) = ngh L s q := by
  unfold nOne ngh
  by_cases h1 : L = 1
  · rw [if_pos h1, if_pos h1]
    have hq0 := hq.2 h1
    obtain ⟨hb, hbit⟩ := hex_fold s q hq0 (List.range 6) (fun k hk => List.mem_range.1 hk) 0 (by omega) (by omega)
    refine bit_ext _ _ hb.1 hb.2 (hexN_bd s q).1 (hexN_bd s q).2 (fun j hj => ?_)
    rw [hbit j hj, hexN_bit s q j hj, show bitOf 0 j = false by simp [bitOf], Bool.false_or]
    rw [Bool.eq_iff_iff]
    simp only [List.any_eq_true, List.mem_range, Bool.and_eq_true, decide_eq_true_eq]
    exact ⟨fun ⟨k, _, hk, h⟩ => hk ▸ h, fun h => ⟨j, hj, rfl, h⟩⟩
  · rw [if_neg h1, if_neg h1]
    have key : ∀ (ds : List CL) (n : Int), (ds.map (shR q.f0.f0 q.f0.f1)).foldl (stepT s) n = n + (((ds.map (sh q.f0.f0 q.f0.f1)).filter fun d => decide (d ∈ s)).length : Int) := by
      intro ds
      induction ds with
      | nil => intro n; simp
      | cons d ds ih =>
        intro n
        rw [List.map_cons, List.foldl_cons, ih, List.map_cons, List.filter_cons]
        have e : mk (shR q.f0.f0 q.f0.f1 d).f0 (shR q.f0.f0 q.f0.f1 d).f1 (shR q.f0.f0 q.f0.f1 d).f2 = sh q.f0.f0 q.f0.f1 d := rfl
        unfold stepT
        rw [e]
        by_cases hm : sh q.f0.f0 q.f0.f1 d ∈ s
        · simp [hm]; omega
        · simp [hm]
    rw [key]
    simp [besL]
theorem has_f (s : List CL) (hs : Srt s) (hl : s.length < 1000000) (q : CL) : set_Set_Has.f s q.f0.f0 q.f0.f1 q.f1 = some (decide (q ∈ s)) := by
  unfold set_Set_Has.f XFind.f
  rw [if_pos (by omega), if_pos hs]
  rfl
theorem ngh_bd (L : Int) (s : List CL) (q : CL) : 0 ≤ ngh L s q ∧ ngh L s q ≤ 63 := by
  unfold ngh
  by_cases h1 : L = 1
  · rw [if_pos h1]; exact hexN_bd s q
  · rw [if_neg h1]
    have h2 := List.length_filter_le (fun d => decide (d ∈ s)) (besL L q)
    have h3 := besL_le L q
    omega
theorem goodR_small (l a b : Int) (xs : List CL) (h : ∀ d ∈ xs, -10 ≤ d.f0.f0 ∧ d.f0.f0 ≤ 10 ∧ -10 ≤ d.f0.f1 ∧ d.f0.f1 ≤ 10) (ha : -10 ≤ a ∧ a ≤ 10) (hb : -10 ≤ b ∧ b ≤ 10) : goodR (xs.map (shR a b)) = true := by
  unfold goodR
  rw [List.all_eq_true]
  intro r hr
  obtain ⟨d, hd, rfl⟩ := List.mem_map.1 hr
  have := h d hd
  exact decide_eq_true (by simp only [shR]; unfold goodP; omega)
theorem flatOne_walk (l b0 b1 s0 s1 : Int) (A1 : Option Addr) (c1 : Nat) (l1 : List RC) (x y h : Int) (w : World) (hG : Six w) (hb0 : 0 ≤ b0) (hb0' : b0 < 18446744073709551616) (hb1 : 0 ≤ b1) (hb1' : b1 < 18446744073709551616) (hs0 : 0 ≤ s0) (hs0' : s0 < 18446744073709551616) (hs1 : 0 ≤ s1) (hs1' : s1 < 18446744073709551616)
    (hr : Kd.C k60 w A1 l1.length l1) (hc : l1.length ≤ c1) :
    Calls Tryd.prog 5 #[.agg #[.int .i64 l, .int .u64 b0, .int .u64 b1, .int .u64 s0, .int .u64 s1], .slice A1 l1.length c1, .agg #[.int .i64 x, .int .i64 y, .int .i64 h]] w fun e w' => e = .returned (.bool true) ∧ Below w.heap.size w w' := by
  obtain ⟨B, rfl⟩ := Int.eq_ofNat_of_zero_le hb0
  obtain ⟨B1, rfl⟩ := Int.eq_ofNat_of_zero_le hb1
  obtain ⟨S, rfl⟩ := Int.eq_ofNat_of_zero_le hs0
  obtain ⟨S1, rfl⟩ := Int.eq_ofNat_of_zero_le hs1
  obtain ⟨L, t0, t1, u0, u1, hsome, hT⟩ := some_rule l B B1 S S1 (by omega) (by omega) (by omega) (by omega)
  obtain ⟨s, hfs, hs, hsl, bs⟩ := few_f 300 L l1 (by omega)
  have hz := rule_zero hT
  have tx := tmod_range x 8 (by omega)
  have ty := tmod_range y 8 (by omega)
  have ux : Int.tmod (Int.tmod x 8) 100 = Int.tmod x 8 := tmod_small _ 100 (by omega) (by omega)
  have uy : Int.tmod (Int.tmod y 8) 100 = Int.tmod y 8 := tmod_small _ 100 (by omega) (by omega)
  obtain ⟨cx, hcx⟩ : ∃ cx, cx = Int.tmod x 8 := ⟨_, rfl⟩
  obtain ⟨cy, hcy⟩ : ∃ cy, cy = Int.tmod y 8 := ⟨_, rfl⟩
  obtain ⟨ch, hch⟩ : ∃ ch, ch = (if L = 1 then 0 else h % 2) := ⟨_, rfl⟩
  have hs3 : XSome3.f L (x.tmod 8) (y.tmod 8) h = some (cx, cy, ch) := by unfold XSome3.f; rw [ux, uy, ← hcx, ← hcy, ← hch]
  rw [← hcx] at tx
  rw [← hcy] at ty
  have hok : hOK L ch := by
    rw [hch]
    unfold hOK
    by_cases e : L = 1
    · rw [if_pos e]; exact ⟨.inl rfl, fun _ => rfl⟩
    · rw [if_neg e]; exact ⟨by omega, fun h => absurd h e⟩
  have hmut := (mut_pure L ch hT.1 hok).1
  have hbes : honeycombref03_Beside.f 300 L cx cy ch = some ((offs L ch).map (shR cx cy), true) := by
    have := refBeside_f 139 (by omega) L cx cy ch hT.1.1 hT.1.2 hok.1 hok.2 (by unfold goodP; omega)
    rw [goodR_small L cx cy (offs L ch) (fun d hd => by have := (hmut d hd).1; omega) (by omega) (by omega)] at this
    exact this
  have hst := step_f hT s hs 6 (by omega) bs (by omega)
  have hul : (nextL (nxtV t0 t1 u0 u1) L s).length ≤ 13 * 16 := Nat.le_trans (next_len _ _ _) (Nat.mul_le_mul_left 13 hsl)
  obtain ⟨_, _, _, _, r0, r1, r2, r3, _⟩ := hT
  have hN := nOne_is L s (mk cx cy ch) hok
  have hN2 : nOne L s cx cy ((offs L ch).map (shR cx cy)) = ngh L s (mk cx cy ch) := hN
  have hB := ngh_bd L s (mk cx cy ch)
  refine (one_walk 300 l B B1 S S1 A1 c1 l1 x y h w hG hr hc L t0 t1 u0 u1 s (nextL (nxtV t0 t1 u0 u1) L s) ((offs L ch).map (shR cx cy)) cx cy ch (nxtV t0 t1 u0 u1) (awake8_f 300 (by omega)) hsome hfs hs3 hbes hst
    (by rw [List.length_map]; exact offs_le0 L ch) (has_f s hs (by omega)) (has_f _ (next_srt _ _ _) (by omega)) (fun v n h0 h1 => rnext_f 300 L t0 t1 u0 u1 ch v n r0 r1 r2 r3 hok.1 h0 h1 (by omega)) (by omega) (by omega) (by assumption) (by rw [hN2]; exact hB) (by omega) (by omega)).mono ?_
  rintro e w' ⟨rfl, hb⟩
  refine ⟨?_, hb⟩
  have hmem := next_mem (nxtV t0 t1 u0 u1) L (by assumption) hz s (srt_nodup hs) bs.half (mk cx cy ch)
  rw [hN2]
  have : (decide (mk cx cy ch ∈ nextL (nxtV t0 t1 u0 u1) L s) == nxtV t0 t1 u0 u1 ch (decide (mk cx cy ch ∈ s)) (ngh L s (mk cx cy ch))) = true := by
    rw [beq_iff_eq, Bool.eq_iff_iff, decide_eq_true_iff, hmem]
    exact ⟨fun h => h.2, fun h => ⟨hok, h⟩⟩
  rw [this]
end Go.Proofs.YtaeenefdbahfoaaDoor
namespace Go.Proofs.YtaeenefdbahfoaaDoor
set_option linter.unusedSimpArgs false
set_option linter.unusedVariables false
open Go.ChangeShapes Go.WideShapes Go.ChangeAt Go.RowKit
open Go.ChangeMaps (open_string shut_string)
open Go.Proofs.YtaeenefdbahfoaaDoorW.PrintWords
set_option linter.unusedVariables false
theorem flatOne_laidOut : laidOutB Tryd.prog = true := by kernel_rfl
set_option maxRecDepth 100000 in
theorem flatOne_lifted (os : Os) (started : os.Started) (H : Type) (enc : TypeId × Value → H) :
    ReturnsInHanded {} Tryd.checked os 5 .any (fun w args => (Rows.flatOneSpec.pre enc Tryd.prog Tryd.f5 [] false w args ∧ laidMetH Tryd.prog laid1 w) ∧ sizedMet enc Tryd.prog Tryd.f5 (OpenSpec.ofChange Rows.flatOneSpec) false w args)
      (Rows.flatOneSpec.post enc Tryd.prog Tryd.f5 false true false false) := by
  refine returnsInHanded_of_change_and (C := Tryd.checked) (X := fun w _ => laidMetH Tryd.prog laid1 w) (fun _ _ _ hh h => h.of_heap hh) ownP started (by kernel_rfl) Tryd.func5
    (ChangeSpec.witness_shaped (enc := enc) (C := Tryd.checked) (os := os) (X := fun w _ => laidMetH Tryd.prog laid1 w) false (World.doorLaid Tryd.prog 27 os) #[.agg #[.int .i64 0, .int .u64 0, .int .u64 0, .int .u64 0, .int .u64 0], .slice none 0 0, .agg #[.int .i64 0, .int .i64 0, .int .i64 0]] 8 rfl (World.shaped_of_RefB (by kernel_rfl) (by kernel_rfl)) (by kernel_rfl) (by kernel_rfl) (by kernel_rfl) (door_met os _)) ?_
  intro W base args ds gs before hval0 hW _ _ hL _
  have hval : ∀ (j : Nat) t v, Tryd.f5.params[j]? = some t → args[j]? = some v → Value.okWide Tryd.prog W .any base t v := hval0
  have hW' := hW
  obtain ⟨p, q, hA0, hV, rfl, hfz, hnd⟩ := hW
  have hA : DataW.TrodAll enc Tryd.prog W 0 (fun _ => true) true Tryd.f5.params.toList args.toList ds p := hA0
  rw [Tryd.params5] at hA hval
  obtain ⟨v0, vs0, d0, ds0, p0, q0, hargs, rfl, rfl, h0, r0⟩ := trodAll_cons hA
  obtain ⟨v1, vs1, d1, ds1, p1, q1, rfl, rfl, rfl, h1, r1⟩ := trodAll_cons r0
  obtain ⟨v2, vs2, d2, ds2, p2, q2, rfl, rfl, rfl, h2, r2⟩ := trodAll_cons r1
  obtain ⟨rfl, rfl, rfl⟩ := trodAll_nil r2
  obtain rfl : args = #[v0, v1, v2] := by cases args; simp_all
  obtain ⟨rfl, rfl⟩ := trodVars_none hV
  obtain ⟨l0, a0, b0, c0, e0, rfl, rfl, rfl, wl0, wa0, wb0, wc0, we0⟩ := open_raw (hval 0 _ v0 rfl rfl) h0
  obtain ⟨a1, len1, cap1, rfl⟩ := okWide_slice Tryd.underlying45 (hval 1 _ v1 rfl rfl)
  have k1 := h1
  have lt1 : ∀ x ∈ p1, x.block < W.heap.size := by obtain ⟨m, hm⟩ := k1; exact DataW.trod_lt m _ _ _ hm
  obtain ⟨l1, rfl, hc1, hr1⟩ := open_rows0 Tryd.underlying45 (by kernel_rfl) (fun fu cs y hy => el_rc fu cs y hy) h1
  obtain ⟨a2, b2, c2, rfl, rfl, rfl, wa2, wb2, wc2⟩ := open_rcell (hval 2 _ v2 rfl rfl) h2
  clear hA0 hval0
  refine (flatOne_walk l0 a0 b0 c0 e0 a1 cap1 l1 a2 b2 c2 W (six_of_laid hL) (u64_rng wa0).1 (u64_rng wa0).2 (u64_rng wb0).1 (u64_rng wb0).2 (u64_rng wc0).1 (u64_rng wc0).2 (u64_rng we0).1 (u64_rng we0).2 hr1 hc1).mono fun e W' ⟨he, bel⟩ => ?_
  subst he
  exact ⟨_, rfl, _, _, _, [], _, [], hW', trodAll_mk1 (shut_bool Tryd.underlying4 _), (trodAll_cons_mk (shut_raw wl0 wa0 wb0 wc0 we0) (trodAll_cons_mk (Below.trod flatOne_laidOut (by kernel_rfl) (of_decide_eq_true (by kernel_rfl)) k1 bel lt1) (trodAll_cons_mk (shut_rcell wa2 wb2 wc2) trodAll_mk0))), rfl, bel.frame _, fun h => by cases h⟩
theorem flatOne_holds : Rows.FlatOneSaid :=
  OpenClaim.holds_of_wide 5 Tryd.f5 rfl rfl rfl rfl rfl rfl rfl ⟨rfl, rfl, rfl, rfl, rfl⟩ rfl rfl rfl rfl rfl (by kernel_rfl) Tryd.func5 (by kernel_rfl)
    (of_decide_eq_true (by kernel_rfl)) (by unfold Func.isWrapper; first | (rw [if_pos (by decide +kernel)]; kernel_rfl) | (rw [if_neg (by decide +kernel)]; exact ⟨rfl, rfl⟩))
    (fun os started H enc _ => flatOne_lifted os started H enc)
theorem flatOne_card : Rows.FlatOneCardSaid :=
  Claim7.holds_tied_plain_at .later [] [.data] true (true, "5343993735a6796f50623d127ce6b9207b28942770deceed6d4303fa040c3cfe") true
    flatOne_holds (fun _ h => by cases h) (by kernel_rfl) (fun _ h => by cases h) flatOne_row_tie rfl ⟨rfl, rfl⟩ (by kernel_rfl) rfl
    (fun f fn hf hfn => by
      obtain rfl : f = 5 := Option.some.inj ((show Tryd.prog.funcNamed "honeycomb/honeycomblaw08.FlatOne" = some 5 by kernel_rfl).symm.trans hf) |>.symm
      obtain rfl : fn = Tryd.f5 := (Option.some.inj (Tryd.func5.symm.trans hfn)).symm
      refine ⟨by kernel_rfl, fun j t ht => ?_⟩
      have hall : (Tryd.f5.params.toList.all fun t => !Tryd.prog.wantsStandIn t) = true := by kernel_rfl
      have hmem : t ∈ Tryd.f5.params.toList := by
        have := Array.mem_of_getElem? ht
        simpa using this
      have := List.all_eq_true.1 hall t hmem
      exact (by simpa using this : Tryd.prog.wantsStandIn t = false))
    (by kernel_rfl)
#print axioms flatOne_card
end Go.Proofs.YtaeenefdbahfoaaDoor
