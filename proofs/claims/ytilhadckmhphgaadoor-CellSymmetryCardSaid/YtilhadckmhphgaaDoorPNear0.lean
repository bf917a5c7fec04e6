/- The document's Near: what the printed function answers, in plain words. -/
import Derived.Test.YtilhadckmhphgaaDoorGood
import Derived.Test.YtilhadckmhphgaaDoorHRef3
namespace Go.Proofs.YtilhadckmhphgaaDoor
open Go.RowKit Go.Proofs.YtilhadckmhphgaaDoorW.PrintWords Go.Proofs.YtilhadckmhphgaaDoorW.PrintLast Go.Proofs.YtilhadckmhphgaaDoorW.PrintMore
open H
open Go.RowKit

def eqc (p0 p1 q0 q1 : Int) : Int := if p0 = q0 ∧ p1 = q1 then 1 else 0
theorem eqc_bd (p0 p1 q0 q1 : Int) : 0 ≤ eqc p0 p1 q0 q1 ∧ eqc p0 p1 q0 q1 ≤ 1 := by unfold eqc; split <;> omega
theorem eqc_sh (a b x y u v u' v' : Int) : eqc (a + x) (b + y) (a + u + u') (b + v + v') = eqc x y (u + u') (v + v') := by
  unfold eqc
  by_cases h : x = u + u' ∧ y = v + v'
  · rw [if_pos h, if_pos (by omega)]
  · rw [if_neg h, if_neg (by omega)]

theorem com_at (k : Nat) (n p0 p1 q0 q1 : Int) (C : List (List Int)) (x12 i : Int) (X : List (List Int)) (j : Int) (u v t : Int) (hX : X.length = 3) (h0 : 0 ≤ j) (h1 : j < 3) (hq : rd_L7 X j = [q0, q1]) (hn : 0 ≤ n) (hn' : n ≤ 100) :
    honeycombref03_common.l1 (k + 1) n [p0, p1] C x12 i X 3 j u v t = honeycombref03_common.l1 k (n + eqc p0 p1 q0 q1) [p0, p1] C x12 i X 3 (j + 1) u v t := by
  simp only [honeycombref03_common.l1]
  rw [if_pos h1, if_pos h0, if_pos (by rw [hX]; exact h1), hq, w64i (j + 1) (by omega) (by omega), w64i (n + 1) (by omega) (by omega)]
  unfold eqc
  by_cases e0 : p0 = q0
  · by_cases e1 : p1 = q1
    · simp [rd, e0, e1]
    · simp [rd, e0, e1]
  · simp [rd, e0]
theorem com_row (k : Nat) (n p0 p1 : Int) (C : List (List Int)) (x12 i : Int) (q0 q1 r0 r1 s0 s1 : Int) (u v t : Int) (hn : 0 ≤ n) (hn' : n ≤ 50) (hi : 0 ≤ i) (hi' : i ≤ 50) :
    honeycombref03_common.l1 (k + 4) n [p0, p1] C x12 i [[q0, q1], [r0, r1], [s0, s1]] 3 0 u v t = honeycombref03_common.l0 k (n + eqc p0 p1 q0 q1 + eqc p0 p1 r0 r1 + eqc p0 p1 s0 s1) C x12 (i + 1) u v t := by
  have b0 := eqc_bd p0 p1 q0 q1
  have b1 := eqc_bd p0 p1 r0 r1
  rw [com_at (k + 3) n p0 p1 q0 q1 C x12 i _ 0 u v t rfl (by omega) (by omega) rfl hn (by omega), com_at (k + 2) _ p0 p1 r0 r1 C x12 i _ (0 + 1) u v t rfl (by omega) (by omega) rfl (by omega) (by omega),
    com_at (k + 1) _ p0 p1 s0 s1 C x12 i _ (0 + 1 + 1) u v t rfl (by omega) (by omega) rfl (by omega) (by omega)]
  simp only [honeycombref03_common.l1]
  rw [if_neg (by omega), w64i (i + 1) (by omega) (by omega)]

def cx (h : Int) (k : Nat) : Int := if h = 0 then (if k = 0 then 0 else if k = 1 then 1 else 0) else (if k = 0 then 1 else if k = 1 then 0 else 1)
def cy (h : Int) (k : Nat) : Int := if h = 0 then (if k = 0 then 0 else if k = 1 then 0 else 1) else (if k = 0 then 0 else if k = 1 then 1 else 1)
theorem corners_f (a b h : Int) (ha : -5000000000000 ≤ a) (ha' : a ≤ 5000000000000) (hb : -5000000000000 ≤ b) (hb' : b ≤ 5000000000000) :
    honeycombref03_Corners.f a b h = some [[a + cx h 0, b + cy h 0], [a + cx h 1, b + cy h 1], [a + cx h 2, b + cy h 2]] := by
  unfold honeycombref03_Corners.f
  rw [w64i (a + 1) (by omega) (by omega), w64i (b + 1) (by omega) (by omega)]
  by_cases h0 : h = 0
  · rw [if_pos h0]
    simp [cx, cy, h0]
  · rw [if_neg h0]
    simp [cx, cy, h0]

/-- how many corners two triangles have in common: by how much one lies further -/
def comD (h dx dy h' : Int) : Int :=
  eqc (cx h 0) (cy h 0) (dx + cx h' 0) (dy + cy h' 0) + eqc (cx h 0) (cy h 0) (dx + cx h' 1) (dy + cy h' 1) + eqc (cx h 0) (cy h 0) (dx + cx h' 2) (dy + cy h' 2) +
  eqc (cx h 1) (cy h 1) (dx + cx h' 0) (dy + cy h' 0) + eqc (cx h 1) (cy h 1) (dx + cx h' 1) (dy + cy h' 1) + eqc (cx h 1) (cy h 1) (dx + cx h' 2) (dy + cy h' 2) +
  eqc (cx h 2) (cy h 2) (dx + cx h' 0) (dy + cy h' 0) + eqc (cx h 2) (cy h 2) (dx + cx h' 1) (dy + cy h' 1) + eqc (cx h 2) (cy h 2) (dx + cx h' 2) (dy + cy h' 2)

theorem com_l0 (k : Nat) (n : Int) (P0 P1 Q0 Q1 R0 R1 : Int) (i p0 p1 : Int) (a b h : Int) (hi : i = 0 ∨ i = 1 ∨ i = 2) (hp : rd_L7 [[P0, P1], [Q0, Q1], [R0, R1]] i = [p0, p1]) (hn : 0 ≤ n) (hn' : n ≤ 50)
    (ha : -5000000000000 ≤ a) (ha' : a ≤ 5000000000000) (hb : -5000000000000 ≤ b) (hb' : b ≤ 5000000000000) :
    honeycombref03_common.l0 (k + 5) n [[P0, P1], [Q0, Q1], [R0, R1]] 3 i a b h = honeycombref03_common.l0 k (n + eqc p0 p1 (a + cx h 0) (b + cy h 0) + eqc p0 p1 (a + cx h 1) (b + cy h 1) + eqc p0 p1 (a + cx h 2) (b + cy h 2)) [[P0, P1], [Q0, Q1], [R0, R1]] 3 (i + 1) a b h := by
  rw [show k + 5 = (k + 4) + 1 from rfl]
  simp only [honeycombref03_common.l0]
  rw [if_pos (by omega), if_pos (by omega), if_pos (by simp; omega), corners_f a b h ha ha' hb hb', hp]
  simp only [Option.bind_some]
  exact com_row k n p0 p1 _ 3 i _ _ _ _ _ _ a b h hn hn' (by omega) (by omega)

theorem common_f (k : Nat) (a b h dx dy h' : Int) (ha : -4000000000000 ≤ a) (ha' : a ≤ 4000000000000) (hb : -4000000000000 ≤ b) (hb' : b ≤ 4000000000000) (hdx : -100 ≤ dx) (hdx' : dx ≤ 100) (hdy : -100 ≤ dy) (hdy' : dy ≤ 100) :
    honeycombref03_common.f (k + 16) a b h (a + dx) (b + dy) h' = some (comD h dx dy h') := by
  unfold honeycombref03_common.f
  rw [corners_f a b h (by omega) (by omega) (by omega) (by omega)]
  simp only [Option.bind_some, List.length_cons, List.length_nil]
  have e00 := eqc_bd (a + cx h 0) (b + cy h 0) (a + dx + cx h' 0) (b + dy + cy h' 0)
  have e01 := eqc_bd (a + cx h 0) (b + cy h 0) (a + dx + cx h' 1) (b + dy + cy h' 1)
  have e02 := eqc_bd (a + cx h 0) (b + cy h 0) (a + dx + cx h' 2) (b + dy + cy h' 2)
  have e10 := eqc_bd (a + cx h 1) (b + cy h 1) (a + dx + cx h' 0) (b + dy + cy h' 0)
  have e11 := eqc_bd (a + cx h 1) (b + cy h 1) (a + dx + cx h' 1) (b + dy + cy h' 1)
  have e12 := eqc_bd (a + cx h 1) (b + cy h 1) (a + dx + cx h' 2) (b + dy + cy h' 2)
  rw [show (((0 + 1 + 1 + 1 : Nat) : Int)) = 3 from rfl]
  rw [com_l0 (k + 11) 0 _ _ _ _ _ _ 0 _ _ (a + dx) (b + dy) h' (.inl rfl) rfl (by omega) (by omega) (by omega) (by omega) (by omega) (by omega),
    com_l0 (k + 6) _ _ _ _ _ _ _ (0 + 1) _ _ (a + dx) (b + dy) h' (.inr (.inl rfl)) rfl (by omega) (by omega) (by omega) (by omega) (by omega) (by omega),
    com_l0 (k + 1) _ _ _ _ _ _ _ (0 + 1 + 1) _ _ (a + dx) (b + dy) h' (.inr (.inr rfl)) rfl (by omega) (by omega) (by omega) (by omega) (by omega) (by omega)]
  simp only [honeycombref03_common.l0]
  rw [if_neg (by omega)]
  simp only [eqc_sh, comD, Int.zero_add]

/-- are two cells beside each other: by how much one lies further -/
def nearD (l h dx dy h' : Int) : Bool := if dx = 0 ∧ dy = 0 ∧ h = h' then false else if l = 1 then decide (-1 ≤ dx ∧ dx ≤ 1 ∧ -1 ≤ dy ∧ dy ≤ 1 ∧ dx ≠ dy) else if l = 2 then comD h dx dy h' == 2 else decide (comD h dx dy h' > 0)
theorem near_f (k : Nat) (l a b h dx dy h' : Int) (ha : -4000000000000 ≤ a) (ha' : a ≤ 4000000000000) (hb : -4000000000000 ≤ b) (hb' : b ≤ 4000000000000) (hdx : -100 ≤ dx) (hdx' : dx ≤ 100) (hdy : -100 ≤ dy) (hdy' : dy ≤ 100) :
    honeycombref03_Near.f (k + 16) l a b h (a + dx) (b + dy) h' = some (nearD l h dx dy h') := by
  unfold honeycombref03_Near.f nearD
  by_cases h0 : dx = 0 ∧ dy = 0 ∧ h = h'
  · obtain ⟨rfl, rfl, rfl⟩ := h0
    simp
  · rw [if_neg h0, if_neg (by simp; omega), w64i (a + dx - a) (by omega) (by omega), w64i (b + dy - b) (by omega) (by omega), common_f k a b h dx dy h' ha ha' hb hb' hdx hdx' hdy hdy', show a + dx - a = dx by omega, show b + dy - b = dy by omega]
    by_cases h1 : l = 1
    · rw [if_pos h1, if_pos h1]
      by_cases c1 : dx ≥ -1
      · by_cases c2 : dx ≤ 1
        · by_cases c3 : dy ≥ -1
          · by_cases c4 : dy ≤ 1
            · rw [if_pos c1, if_pos c2, if_pos c3, if_pos c4]
              congr 1
              by_cases c5 : dx = dy
              · rw [decide_eq_false (by omega)]
                simp [c5]
              · rw [decide_eq_true (by omega)]
                simp [c5]
            · rw [if_pos c1, if_pos c2, if_pos c3, if_neg c4, decide_eq_false (by omega)]
          · rw [if_pos c1, if_pos c2, if_neg c3, decide_eq_false (by omega)]
        · rw [if_pos c1, if_neg c2, decide_eq_false (by omega)]
      · rw [if_neg c1, decide_eq_false (by omega)]
    · rw [if_neg h1, if_neg h1]
      by_cases h2 : l = 2
      · rw [if_pos h2, if_pos h2]; rfl
      · rw [if_neg h2, if_neg h2]; rfl

end Go.Proofs.YtilhadckmhphgaaDoor
