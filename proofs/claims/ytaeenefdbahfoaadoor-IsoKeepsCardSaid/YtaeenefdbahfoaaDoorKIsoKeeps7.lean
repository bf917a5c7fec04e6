/- Parts of the proof (IsoKeeps), merged out of our texts by wip/tools/pack.py: HRef7. -/
import Derived.Test.YtaeenefdbahfoaaDoorKIsoKeeps1
namespace Go.Proofs.YtaeenefdbahfoaaDoor.H
open Go.RowKit Go.Proofs.YtaeenefdbahfoaaDoorW.PrintWords Go.Proofs.YtaeenefdbahfoaaDoorW.PrintLast Go.Proofs.YtaeenefdbahfoaaDoorW.PrintMore
attribute [local go_sem] max2_int min2_int max_two min_two max_three min_three max_four min_four
set_option linter.unusedVariables false
set_option linter.unusedSimpArgs false
mutual
def honeycombref01_On.j0 : Nat → Int → Int → Int → Option (Int × Int)
 | 0, _, _, _ => none
 | k + 1, x0, x1, x2 => honeycombref01_On.l0 k x0 x1 x2 0
def honeycombref01_On.l0 : Nat → Int → Int → Int → Int → Option (Int × Int)
 | 0, _, _, _, _ => none
 | k + 1, x0, x1, x2, x8 => if x8 < (Int.tmod x0 6) then (honeycombref01_On.l0 k x0 (wrap64 (-x2)) (wrap64 (x1 + x2)) (wrap64 (x8 + 1))) else (some (x1, x2))
end
def honeycombref01_On.f (k : Nat) (a0 : Int) (a1 : Int) (a2 : Int) : Option (Int × Int) := if a0 > 5 then (honeycombref01_On.j0 k a0 a2 a1) else (honeycombref01_On.j0 k a0 a1 a2)
theorem honeycombref01_On.mono_l : ∀ k, (∀ y0 y1 y2, LeO (honeycombref01_On.j0 k y0 y1 y2) (honeycombref01_On.j0 (k + 1) y0 y1 y2)) ∧ (∀ y0 y1 y2 y3, LeO (honeycombref01_On.l0 k y0 y1 y2 y3) (honeycombref01_On.l0 (k + 1) y0 y1 y2 y3))
 | 0 => ⟨fun _ _ _ r h => by simp [honeycombref01_On.j0] at h, fun _ _ _ _ r h => by simp [honeycombref01_On.l0] at h⟩
 | k + 1 => by
  obtain ⟨ih0, ih1⟩ := honeycombref01_On.mono_l k
  refine ⟨?_, ?_⟩
  ·
   intro y0 y1 y2
   unfold honeycombref01_On.j0
   repeat' first
   | (with_reducible exact ih0 _ _ _)
   | (with_reducible exact ih1 _ _ _ _)
   | (with_reducible exact LeO.refl _)
   | (with_reducible exact LeO.none _)
   | (with_reducible refine LeO.ite ?_ ?_)
   | (with_reducible refine LeO.bind ?_ (fun _ => ?_))
   | exact ih0 _ _ _
   | exact ih1 _ _ _ _
   | exact LeO.none _
   | refine LeO.ite ?_ ?_
   | refine LeO.bind ?_ (fun _ => ?_)
  ·
   intro y0 y1 y2 y3
   unfold honeycombref01_On.l0
   repeat' first
   | (with_reducible exact ih0 _ _ _)
   | (with_reducible exact ih1 _ _ _ _)
   | (with_reducible exact LeO.refl _)
   | (with_reducible exact LeO.none _)
   | (with_reducible refine LeO.ite ?_ ?_)
   | (with_reducible refine LeO.bind ?_ (fun _ => ?_))
   | exact ih0 _ _ _
   | exact ih1 _ _ _ _
   | exact LeO.none _
   | refine LeO.ite ?_ ?_
   | refine LeO.bind ?_ (fun _ => ?_)
theorem honeycombref01_On.mono : ∀ a0 a1 a2 k, LeO (honeycombref01_On.f k a0 a1 a2) (honeycombref01_On.f (k + 1) a0 a1 a2) := by
 intro a0 a1 a2 k
 obtain ⟨ih0, ih1⟩ := honeycombref01_On.mono_l k
 unfold honeycombref01_On.f
 repeat' first
   | (with_reducible exact ih0 _ _ _)
   | (with_reducible exact ih1 _ _ _ _)
   | (with_reducible exact LeO.refl _)
   | (with_reducible exact LeO.none _)
   | (with_reducible refine LeO.ite ?_ ?_)
   | (with_reducible refine LeO.bind ?_ (fun _ => ?_))
   | exact ih0 _ _ _
   | exact ih1 _ _ _ _
   | exact LeO.none _
   | refine LeO.ite ?_ ?_
   | refine LeO.bind ?_ (fun _ => ?_)
set_option maxHeartbeats 8000000 in
set_option maxRecDepth 100000 in
theorem honeycombref01_On.calls (k : Nat) (a0 : Int) (a1 : Int) (a2 : Int) (r1 : Int) (r2 : Int) (w : World) (h : honeycombref01_On.f k a0 a1 a2 = some (r1, r2)) :
  Calls Tryd.prog 85 #[.int .i64 a0, .int .i64 a1, .int .i64 a2] w fun e w' => e = .returned (.tuple #[.int .i64 r1, .int .i64 r2]) ∧ Drawn0 w w' := by
 have H : (if a0 > 5 then (honeycombref01_On.j0 k a0 a2 a1) else (honeycombref01_On.j0 k a0 a1 a2)) = some (r1, r2) := h
 clear h
 have HC4 := Aside0.mk H
 clear H
 go_enter Tryd.func85, Tryd.ntmps85
 go_upto_if 10 with (fail)
 go_cut [1, 2] (fun v1 v2 wc => ∃ (kq : Nat) (x1_3 : Int) (x2_3 : Int), v1 = .int .i64 x1_3 ∧ v2 = .int .i64 x2_3 ∧ Aside0 (honeycombref01_On.j0 kq a0 x1_3 x2_3 = some (r1, r2)) ∧ Aside0 (kq ≤ k) ∧ Drawn0 w wc)
 case first =>
  have H := HC4.out
  clear HC4
  by_cases c5 : a0 > 5
  ·
   rw [if_pos c5] at H
   have c5b0 : decide (5 < a0) = true := decide_eq_true c5
   clear c5
   (first | rw [c5b0] | (simp only [i64_w, i32_w]; rw [c5b0]) | skip)
   have H' := Aside0.mk H
   clear H
   go_wp2
   go_meet
   case rel => exact ⟨_, (a2), (a1), rs_, rs_, H', ⟨by first | omega | exact Nat.le_refl _⟩, by repeat (first | exact Drawn0.refl _ | apply Drawn0.step)⟩
  rw [if_neg c5] at H
  have c5b0 : decide (5 < a0) = false := decide_eq_false c5
  clear c5
  (first | rw [c5b0] | (simp only [i64_w, i32_w]; rw [c5b0]) | skip)
  have H' := Aside0.mk H
  clear H
  go_wp2
  go_meet
  case rel => exact ⟨_, (a1), (a2), rs_, rs_, H', ⟨by first | omega | exact Nat.le_refl _⟩, by repeat (first | exact Drawn0.refl _ | apply Drawn0.step)⟩
 case rest =>
  clear HC4
  try clear p2
  try clear c5
  try clear c5b0
  obtain ⟨kq, x1_3, x2_3, rfl, rfl, HA, HJ3, ⟨mc3, rfl⟩⟩ := hcut
  cases kq with
  | zero => exact absurd HA.out (by simp [honeycombref01_On.j0])
  | succ kj3 =>
   have H := HA.out
   clear HA
   simp only [honeycombref01_On.j0] at H
   have H' := Aside0.mk H
   clear H
   go_wp2
   go_loopg [1, 2, 8] kj3 (fun kq v1 v2 v8 w' => ∃ (x1_2 : Int) (x2_2 : Int) (x8_2 : Int), v1 = .int .i64 x1_2 ∧ v2 = .int .i64 x2_2 ∧ v8 = .int .i64 x8_2 ∧ Aside0 (honeycombref01_On.l0 kq a0 x1_2 x2_2 x8_2 = some (r1, r2)) ∧ Aside0 (kq ≤ kj3) ∧ Drawn0 w w')
   case atStart => exact ⟨(x1_3), (x2_3), (0), rs_, rs_, rs_, H', ⟨Nat.le_refl _⟩, by repeat (first | exact Drawn0.refl _ | apply Drawn0.step)⟩
   case round =>
    clear H'
    try clear p2
    try clear c3
    try clear c5
    try clear c5b0
    try clear p2
    obtain ⟨x1_2, x2_2, x8_2, rfl, rfl, rfl, HA, HK2, ⟨m2, rfl⟩⟩ := hrel
    cases gk with
    | zero => exact absurd HA.out (by simp [honeycombref01_On.l0])
    | succ k2 =>
     have H := HA.out
     clear HA
     simp only [honeycombref01_On.l0] at H
     by_cases c6 : x8_2 < (Int.tmod a0 6)
     rotate_left
     ·
      rw [if_neg c6] at H
      have c6b0 : decide (x8_2 < (Int.tmod a0 6)) = false := decide_eq_false c6
      clear c6
      simp only [Option.some.injEq, Prod.mk.injEq] at H
      obtain ⟨rfl, rfl⟩ := H
      go_wp2
      go_ret2
      exact ⟨by first | rfl | (simp; done) | (simp [*]; done), by repeat (first | exact Drawn0.refl _ | apply Drawn0.step)⟩
     rw [if_pos c6] at H
     have c6b0 : decide (x8_2 < (Int.tmod a0 6)) = true := decide_eq_true c6
     clear c6
     have H' := Aside0.mk H
     clear H
     go_wp2
     go_roundg k2
     case measure => have := HJ3.out; have := HK2.out; omega
     case rel => exact ⟨(wrap64 (-x2_2)), (wrap64 (x1_2 + x2_2)), (wrap64 (x8_2 + 1)), rs_, rs_, rs_, H', ⟨by have := HJ3.out; have := HK2.out; omega⟩, by repeat (first | exact Drawn0.refl _ | apply Drawn0.step)⟩
mutual
def honeycombref07_turned.l0 : Nat → Int → Int → List (List Int) → Int → List (List Int) → Int → Int → Option (Int)
 | 0, _, _, _, _, _, _, _ => none
 | k + 1, x0, x1, x5, x6, x21, x22, x23 => if x23 < x22 then (if 0 ≤ x23 then (if x23 < (x21.length : Int) then (if 0 < ((rd_L10 x21 x23).length : Int) then (if 1 < ((rd_L10 x21 x23).length : Int) then ((honeycombref01_On.f k x0 (rd (rd_L10 x21 x23) 0) (rd (rd_L10 x21 x23) 1)).bind fun bt233 => (honeycombref07_turned.l1 k x0 x1 x5 x6 bt233.1 bt233.2 1 x21 x22 x23 x5 (x5.length : Int) 0)) else (none)) else (none)) else (none)) else (none)) else (some x6)
def honeycombref07_turned.l1 : Nat → Int → Int → List (List Int) → Int → Int → Int → Int → List (List Int) → Int → Int → List (List Int) → Int → Int → Option (Int)
 | 0, _, _, _, _, _, _, _, _, _, _, _, _, _ => none
 | k + 1, x0, x1, x5, x6, x9, x10, x11, x21, x22, x23, x38, x39, x40 => if x40 < x39 then (if 0 ≤ x40 then (if x40 < (x38.length : Int) then (if 0 < ((rd_L10 x38 x40).length : Int) then (if (rd (rd_L10 x38 x40) 0) = x9 then (if 1 < ((rd_L10 x38 x40).length : Int) then (if (rd (rd_L10 x38 x40) 1) = x10 then (honeycombref07_turned.j2 k x0 x1 x5 x6 x9 x10 x11 x21 x22 x23 x38 x39 x40 ((Int.tmod x1 2) == 1)) else (honeycombref07_turned.j2 k x0 x1 x5 x6 x9 x10 x11 x21 x22 x23 x38 x39 x40 false)) else (none)) else (honeycombref07_turned.j2 k x0 x1 x5 x6 x9 x10 x11 x21 x22 x23 x38 x39 x40 false)) else (none)) else (none)) else (none)) else (honeycombref07_turned.l0 k x0 (wrap64 (Int.tdiv x1 2)) x5 x6 x21 x22 (wrap64 (x23 + 1)))
def honeycombref07_turned.j2 : Nat → Int → Int → List (List Int) → Int → Int → Int → Int → List (List Int) → Int → Int → List (List Int) → Int → Int → Bool → Option (Int)
 | 0, _, _, _, _, _, _, _, _, _, _, _, _, _, _ => none
 | k + 1, x0, x1, x5, x6, x9, x10, x11, x21, x22, x23, x38, x39, x40, x60 => if x60 = true then (honeycombref07_turned.l1 k x0 x1 x5 (wrap64 (x6 + x11)) x9 x10 (wrap64 (2 * x11)) x21 x22 x23 x38 x39 (wrap64 (x40 + 1))) else (honeycombref07_turned.l1 k x0 x1 x5 x6 x9 x10 (wrap64 (2 * x11)) x21 x22 x23 x38 x39 (wrap64 (x40 + 1)))
end
def honeycombref07_turned.f (k : Nat) (a0 : Int) (a1 : Int) : Option (Int) := (some (([(([1, 0] : List Int)), (([0, 1] : List Int)), (([(-1), 1] : List Int)), (([(-1), 0] : List Int)), (([0, (-1)] : List Int)), (([1, (-1)] : List Int))] : List (List Int)) : List (List Int))).bind fun y227 => (honeycombref07_turned.l0 k a0 a1 y227 0 y227 (y227.length : Int) 0)
theorem honeycombref07_turned.mono_l : ∀ k, (∀ y0 y1 y2 y3 y4 y5 y6, LeO (honeycombref07_turned.l0 k y0 y1 y2 y3 y4 y5 y6) (honeycombref07_turned.l0 (k + 1) y0 y1 y2 y3 y4 y5 y6)) ∧ (∀ y0 y1 y2 y3 y4 y5 y6 y7 y8 y9 y10 y11 y12, LeO (honeycombref07_turned.l1 k y0 y1 y2 y3 y4 y5 y6 y7 y8 y9 y10 y11 y12) (honeycombref07_turned.l1 (k + 1) y0 y1 y2 y3 y4 y5 y6 y7 y8 y9 y10 y11 y12)) ∧ (∀ y0 y1 y2 y3 y4 y5 y6 y7 y8 y9 y10 y11 y12 y13, LeO (honeycombref07_turned.j2 k y0 y1 y2 y3 y4 y5 y6 y7 y8 y9 y10 y11 y12 y13) (honeycombref07_turned.j2 (k + 1) y0 y1 y2 y3 y4 y5 y6 y7 y8 y9 y10 y11 y12 y13))
 | 0 => ⟨fun _ _ _ _ _ _ _ r h => by simp [honeycombref07_turned.l0] at h, fun _ _ _ _ _ _ _ _ _ _ _ _ _ r h => by simp [honeycombref07_turned.l1] at h, fun _ _ _ _ _ _ _ _ _ _ _ _ _ _ r h => by simp [honeycombref07_turned.j2] at h⟩
 | k + 1 => by
  obtain ⟨ih0, ih1, ih2⟩ := honeycombref07_turned.mono_l k
  refine ⟨?_, ?_, ?_⟩
  ·
   intro y0 y1 y2 y3 y4 y5 y6
   unfold honeycombref07_turned.l0
   repeat' first
   | (with_reducible exact ih0 _ _ _ _ _ _ _)
   | (with_reducible exact ih1 _ _ _ _ _ _ _ _ _ _ _ _ _)
   | (with_reducible exact ih2 _ _ _ _ _ _ _ _ _ _ _ _ _ _)
   | (with_reducible exact honeycombref01_On.mono _ _ _ _)
   | (with_reducible exact LeO.refl _)
   | (with_reducible exact LeO.none _)
   | (with_reducible refine LeO.ite ?_ ?_)
   | (with_reducible refine LeO.bind ?_ (fun _ => ?_))
   | exact ih0 _ _ _ _ _ _ _
   | exact ih1 _ _ _ _ _ _ _ _ _ _ _ _ _
   | exact ih2 _ _ _ _ _ _ _ _ _ _ _ _ _ _
   | exact honeycombref01_On.mono _ _ _ _
   | exact LeO.none _
   | refine LeO.ite ?_ ?_
   | refine LeO.bind ?_ (fun _ => ?_)
  ·
   intro y0 y1 y2 y3 y4 y5 y6 y7 y8 y9 y10 y11 y12
   unfold honeycombref07_turned.l1
   repeat' first
   | (with_reducible exact ih0 _ _ _ _ _ _ _)
   | (with_reducible exact ih1 _ _ _ _ _ _ _ _ _ _ _ _ _)
   | (with_reducible exact ih2 _ _ _ _ _ _ _ _ _ _ _ _ _ _)
   | (with_reducible exact honeycombref01_On.mono _ _ _ _)
   | (with_reducible exact LeO.refl _)
   | (with_reducible exact LeO.none _)
   | (with_reducible refine LeO.ite ?_ ?_)
   | (with_reducible refine LeO.bind ?_ (fun _ => ?_))
   | exact ih0 _ _ _ _ _ _ _
   | exact ih1 _ _ _ _ _ _ _ _ _ _ _ _ _
   | exact ih2 _ _ _ _ _ _ _ _ _ _ _ _ _ _
   | exact honeycombref01_On.mono _ _ _ _
   | exact LeO.none _
   | refine LeO.ite ?_ ?_
   | refine LeO.bind ?_ (fun _ => ?_)
  ·
   intro y0 y1 y2 y3 y4 y5 y6 y7 y8 y9 y10 y11 y12 y13
   unfold honeycombref07_turned.j2
   repeat' first
   | (with_reducible exact ih0 _ _ _ _ _ _ _)
   | (with_reducible exact ih1 _ _ _ _ _ _ _ _ _ _ _ _ _)
   | (with_reducible exact ih2 _ _ _ _ _ _ _ _ _ _ _ _ _ _)
   | (with_reducible exact honeycombref01_On.mono _ _ _ _)
   | (with_reducible exact LeO.refl _)
   | (with_reducible exact LeO.none _)
   | (with_reducible refine LeO.ite ?_ ?_)
   | (with_reducible refine LeO.bind ?_ (fun _ => ?_))
   | exact ih0 _ _ _ _ _ _ _
   | exact ih1 _ _ _ _ _ _ _ _ _ _ _ _ _
   | exact ih2 _ _ _ _ _ _ _ _ _ _ _ _ _ _
   | exact honeycombref01_On.mono _ _ _ _
   | exact LeO.none _
   | refine LeO.ite ?_ ?_
   | refine LeO.bind ?_ (fun _ => ?_)
theorem honeycombref07_turned.mono : ∀ a0 a1 k, LeO (honeycombref07_turned.f k a0 a1) (honeycombref07_turned.f (k + 1) a0 a1) := by
 intro a0 a1 k
 obtain ⟨ih0, ih1, ih2⟩ := honeycombref07_turned.mono_l k
 unfold honeycombref07_turned.f
 repeat' first
   | (with_reducible exact ih0 _ _ _ _ _ _ _)
   | (with_reducible exact ih1 _ _ _ _ _ _ _ _ _ _ _ _ _)
   | (with_reducible exact ih2 _ _ _ _ _ _ _ _ _ _ _ _ _ _)
   | (with_reducible exact honeycombref01_On.mono _ _ _ _)
   | (with_reducible exact LeO.refl _)
   | (with_reducible exact LeO.none _)
   | (with_reducible refine LeO.ite ?_ ?_)
   | (with_reducible refine LeO.bind ?_ (fun _ => ?_))
   | exact ih0 _ _ _ _ _ _ _
   | exact ih1 _ _ _ _ _ _ _ _ _ _ _ _ _
   | exact ih2 _ _ _ _ _ _ _ _ _ _ _ _ _ _
   | exact honeycombref01_On.mono _ _ _ _
   | exact LeO.none _
   | refine LeO.ite ?_ ?_
   | refine LeO.bind ?_ (fun _ => ?_)
set_option maxHeartbeats 8000000 in
set_option maxRecDepth 100000 in
theorem honeycombref07_turned.calls (k : Nat) (a0 : Int) (a1 : Int) (r : Int) (w : World) (h : honeycombref07_turned.f k a0 a1 = some r) :
  Calls Tryd.prog 52 #[.int .i64 a0, .int .i64 a1] w fun e w' => e = .returned (.int .i64 r) ∧ Below w.heap.size w w' := by
 have HB := Aside0.mk (Below.refl w.heap.size w)
 have H : ((some (([(([1, 0] : List Int)), (([0, 1] : List Int)), (([(-1), 1] : List Int)), (([(-1), 0] : List Int)), (([0, (-1)] : List Int)), (([1, (-1)] : List Int))] : List (List Int)) : List (List Int))).bind fun y227 => (honeycombref07_turned.l0 k a0 a1 y227 0 y227 (y227.length : Int) 0)) = some r := h
 clear h
 obtain ⟨y209, hy209⟩ : ∃ y_ : List Int, y_ = (([1, 0] : List Int)) := ⟨_, rfl⟩
 replace H : ((some (([y209, (([0, 1] : List Int)), (([(-1), 1] : List Int)), (([(-1), 0] : List Int)), (([0, (-1)] : List Int)), (([1, (-1)] : List Int))] : List (List Int)) : List (List Int))).bind fun y227 => (honeycombref07_turned.l0 k a0 a1 y227 0 y227 (y227.length : Int) 0)) = some r := by first | (rw [hy209]; with_reducible exact H) | (have H2_ := (Option.bind_some _ _).symm.trans H; rw [hy209]; with_reducible exact H2_) | (have H2_ := (Option.bind_some _ _).symm.trans H; with_reducible exact H2_) | with_reducible exact H | (rw [hy209]; exact H) | exact H
 have Ny209 := Aside0.mk hy209
 clear hy209
 obtain ⟨y212, hy212⟩ : ∃ y_ : List Int, y_ = (([0, 1] : List Int)) := ⟨_, rfl⟩
 replace H : ((some (([y209, y212, (([(-1), 1] : List Int)), (([(-1), 0] : List Int)), (([0, (-1)] : List Int)), (([1, (-1)] : List Int))] : List (List Int)) : List (List Int))).bind fun y227 => (honeycombref07_turned.l0 k a0 a1 y227 0 y227 (y227.length : Int) 0)) = some r := by first | (rw [hy212]; with_reducible exact H) | (have H2_ := (Option.bind_some _ _).symm.trans H; rw [hy212]; with_reducible exact H2_) | (have H2_ := (Option.bind_some _ _).symm.trans H; with_reducible exact H2_) | with_reducible exact H | (rw [hy212]; exact H) | exact H
 have Ny212 := Aside0.mk hy212
 clear hy212
 obtain ⟨y215, hy215⟩ : ∃ y_ : List Int, y_ = (([(-1), 1] : List Int)) := ⟨_, rfl⟩
 replace H : ((some (([y209, y212, y215, (([(-1), 0] : List Int)), (([0, (-1)] : List Int)), (([1, (-1)] : List Int))] : List (List Int)) : List (List Int))).bind fun y227 => (honeycombref07_turned.l0 k a0 a1 y227 0 y227 (y227.length : Int) 0)) = some r := by first | (rw [hy215]; with_reducible exact H) | (have H2_ := (Option.bind_some _ _).symm.trans H; rw [hy215]; with_reducible exact H2_) | (have H2_ := (Option.bind_some _ _).symm.trans H; with_reducible exact H2_) | with_reducible exact H | (rw [hy215]; exact H) | exact H
 have Ny215 := Aside0.mk hy215
 clear hy215
 obtain ⟨y218, hy218⟩ : ∃ y_ : List Int, y_ = (([(-1), 0] : List Int)) := ⟨_, rfl⟩
 replace H : ((some (([y209, y212, y215, y218, (([0, (-1)] : List Int)), (([1, (-1)] : List Int))] : List (List Int)) : List (List Int))).bind fun y227 => (honeycombref07_turned.l0 k a0 a1 y227 0 y227 (y227.length : Int) 0)) = some r := by first | (rw [hy218]; with_reducible exact H) | (have H2_ := (Option.bind_some _ _).symm.trans H; rw [hy218]; with_reducible exact H2_) | (have H2_ := (Option.bind_some _ _).symm.trans H; with_reducible exact H2_) | with_reducible exact H | (rw [hy218]; exact H) | exact H
 have Ny218 := Aside0.mk hy218
 clear hy218
 obtain ⟨y221, hy221⟩ : ∃ y_ : List Int, y_ = (([0, (-1)] : List Int)) := ⟨_, rfl⟩
 replace H : ((some (([y209, y212, y215, y218, y221, (([1, (-1)] : List Int))] : List (List Int)) : List (List Int))).bind fun y227 => (honeycombref07_turned.l0 k a0 a1 y227 0 y227 (y227.length : Int) 0)) = some r := by first | (rw [hy221]; with_reducible exact H) | (have H2_ := (Option.bind_some _ _).symm.trans H; rw [hy221]; with_reducible exact H2_) | (have H2_ := (Option.bind_some _ _).symm.trans H; with_reducible exact H2_) | with_reducible exact H | (rw [hy221]; exact H) | exact H
 have Ny221 := Aside0.mk hy221
 clear hy221
 obtain ⟨y224, hy224⟩ : ∃ y_ : List Int, y_ = (([1, (-1)] : List Int)) := ⟨_, rfl⟩
 replace H : ((some (([y209, y212, y215, y218, y221, y224] : List (List Int)) : List (List Int))).bind fun y227 => (honeycombref07_turned.l0 k a0 a1 y227 0 y227 (y227.length : Int) 0)) = some r := by first | (rw [hy224]; with_reducible exact H) | (have H2_ := (Option.bind_some _ _).symm.trans H; rw [hy224]; with_reducible exact H2_) | (have H2_ := (Option.bind_some _ _).symm.trans H; with_reducible exact H2_) | with_reducible exact H | (rw [hy224]; exact H) | exact H
 have Ny224 := Aside0.mk hy224
 clear hy224
 obtain ⟨y227, hy227⟩ : ∃ y_ : List (List Int), y_ = (([y209, y212, y215, y218, y221, y224] : List (List Int))) := ⟨_, rfl⟩
 replace H : (honeycombref07_turned.l0 k a0 a1 y227 0 y227 (y227.length : Int) 0) = some r := by first | (rw [hy227]; with_reducible exact H) | (have H2_ := (Option.bind_some _ _).symm.trans H; rw [hy227]; with_reducible exact H2_) | (have H2_ := (Option.bind_some _ _).symm.trans H; with_reducible exact H2_) | with_reducible exact H | (rw [hy227]; exact H) | exact H
 have Ny227 := Aside0.mk hy227
 clear hy227
 have H' := Aside0.mk H
 clear H
 go_enter Tryd.func52, Tryd.ntmps52
 go_wp2_with (first | ((with_reducible refine gate_dst (N := 14) rfl ?_); refine Kd.R_lit (Kd.int .i64) _ 2 ?hg (N := 14) ?hd (xs := ([1, 0] : List Int)) (inner := [.int .i64 1, .int .i64 0]) (ok := fun _ => True) (okp := fun _ => True) ?hr ?hp (fun _ hk => hk) trivial (Below.refl _ _) (Nat.le_refl _) (by simp) ?_; (case hd => rfl); (case hg => rfl); (case hr => first | (go_simp; done) | (go_simp; rfl)); (case hp => exact (Reps.one (show Kd.M (Kd.int .i64) _ _ _ 1 [.int .i64 1] from rfl) (Reps.one (show Kd.M (Kd.int .i64) _ _ _ 0 [.int .i64 0] from rfl) (Reps.none _ _)))); intro v210 w3 ho4 hb hg_ hnew_; clear hg_ hnew_; (first | rw [← Ny209.out] at ho4 | (simp only [Int.reduceToNat] at ho4; rw [← Ny209.out] at ho4)); have HO211 := Aside0.mk (Kd.R_lower ho4 (below_size hb_)); replace HB := Aside0.mk (below_step hb_ hb); clear hb ho4) | ((with_reducible refine gate_dst (N := 15) rfl ?_); refine Kd.R_lit (Kd.int .i64) _ 2 ?hg (N := 15) ?hd (xs := ([0, 1] : List Int)) (inner := [.int .i64 0, .int .i64 1]) (ok := fun _ => True) (okp := fun _ => True) ?hr ?hp (fun _ hk => hk) trivial (Below.refl _ _) (Nat.le_refl _) (by simp) ?_; (case hd => rfl); (case hg => rfl); (case hr => first | (go_simp; done) | (go_simp; rfl)); (case hp => exact (Reps.one (show Kd.M (Kd.int .i64) _ _ _ 0 [.int .i64 0] from rfl) (Reps.one (show Kd.M (Kd.int .i64) _ _ _ 1 [.int .i64 1] from rfl) (Reps.none _ _)))); intro v213 w5 ho6 hb hg_ hnew_; clear hg_ hnew_; (first | rw [← Ny212.out] at ho6 | (simp only [Int.reduceToNat] at ho6; rw [← Ny212.out] at ho6)); have HO214 := Aside0.mk (Kd.R_lower (Kd.R_new' ho6 (Kd.R_lt (kr_ HO211.out))) (below_size hb_)); replace HO211 := Aside0.mk (Kd.R_elder' (kr_ HO211.out) (Kd.R_base ho6) hb); replace HB := Aside0.mk (below_step hb_ hb); clear hb ho6) | ((with_reducible refine gate_dst (N := 16) rfl ?_); refine Kd.R_lit (Kd.int .i64) _ 2 ?hg (N := 16) ?hd (xs := ([(-1), 1] : List Int)) (inner := [.int .i64 (-1), .int .i64 1]) (ok := fun _ => True) (okp := fun _ => True) ?hr ?hp (fun _ hk => hk) trivial (Below.refl _ _) (Nat.le_refl _) (by simp) ?_; (case hd => rfl); (case hg => rfl); (case hr => first | (go_simp; done) | (go_simp; rfl)); (case hp => exact (Reps.one (show Kd.M (Kd.int .i64) _ _ _ (-1) [.int .i64 (-1)] from rfl) (Reps.one (show Kd.M (Kd.int .i64) _ _ _ 1 [.int .i64 1] from rfl) (Reps.none _ _)))); intro v216 w7 ho8 hb hg_ hnew_; clear hg_ hnew_; (first | rw [← Ny215.out] at ho8 | (simp only [Int.reduceToNat] at ho8; rw [← Ny215.out] at ho8)); have HO217 := Aside0.mk (Kd.R_lower (Kd.R_new' (Kd.R_new' ho8 (Kd.R_lt (kr_ HO211.out))) (Kd.R_lt (kr_ HO214.out))) (below_size hb_)); replace HO211 := Aside0.mk (Kd.R_elder' (kr_ HO211.out) (Kd.R_base ho8) hb); replace HO214 := Aside0.mk (Kd.R_elder' (kr_ HO214.out) (Kd.R_base ho8) hb); replace HB := Aside0.mk (below_step hb_ hb); clear hb ho8) | ((with_reducible refine gate_dst (N := 17) rfl ?_); refine Kd.R_lit (Kd.int .i64) _ 2 ?hg (N := 17) ?hd (xs := ([(-1), 0] : List Int)) (inner := [.int .i64 (-1), .int .i64 0]) (ok := fun _ => True) (okp := fun _ => True) ?hr ?hp (fun _ hk => hk) trivial (Below.refl _ _) (Nat.le_refl _) (by simp) ?_; (case hd => rfl); (case hg => rfl); (case hr => first | (go_simp; done) | (go_simp; rfl)); (case hp => exact (Reps.one (show Kd.M (Kd.int .i64) _ _ _ (-1) [.int .i64 (-1)] from rfl) (Reps.one (show Kd.M (Kd.int .i64) _ _ _ 0 [.int .i64 0] from rfl) (Reps.none _ _)))); intro v219 w9 ho10 hb hg_ hnew_; clear hg_ hnew_; (first | rw [← Ny218.out] at ho10 | (simp only [Int.reduceToNat] at ho10; rw [← Ny218.out] at ho10)); have HO220 := Aside0.mk (Kd.R_lower (Kd.R_new' (Kd.R_new' (Kd.R_new' ho10 (Kd.R_lt (kr_ HO211.out))) (Kd.R_lt (kr_ HO214.out))) (Kd.R_lt (kr_ HO217.out))) (below_size hb_)); replace HO211 := Aside0.mk (Kd.R_elder' (kr_ HO211.out) (Kd.R_base ho10) hb); replace HO214 := Aside0.mk (Kd.R_elder' (kr_ HO214.out) (Kd.R_base ho10) hb); replace HO217 := Aside0.mk (Kd.R_elder' (kr_ HO217.out) (Kd.R_base ho10) hb); replace HB := Aside0.mk (below_step hb_ hb); clear hb ho10) | ((with_reducible refine gate_dst (N := 18) rfl ?_); refine Kd.R_lit (Kd.int .i64) _ 2 ?hg (N := 18) ?hd (xs := ([0, (-1)] : List Int)) (inner := [.int .i64 0, .int .i64 (-1)]) (ok := fun _ => True) (okp := fun _ => True) ?hr ?hp (fun _ hk => hk) trivial (Below.refl _ _) (Nat.le_refl _) (by simp) ?_; (case hd => rfl); (case hg => rfl); (case hr => first | (go_simp; done) | (go_simp; rfl)); (case hp => exact (Reps.one (show Kd.M (Kd.int .i64) _ _ _ 0 [.int .i64 0] from rfl) (Reps.one (show Kd.M (Kd.int .i64) _ _ _ (-1) [.int .i64 (-1)] from rfl) (Reps.none _ _)))); intro v222 w11 ho12 hb hg_ hnew_; clear hg_ hnew_; (first | rw [← Ny221.out] at ho12 | (simp only [Int.reduceToNat] at ho12; rw [← Ny221.out] at ho12)); have HO223 := Aside0.mk (Kd.R_lower (Kd.R_new' (Kd.R_new' (Kd.R_new' (Kd.R_new' ho12 (Kd.R_lt (kr_ HO211.out))) (Kd.R_lt (kr_ HO214.out))) (Kd.R_lt (kr_ HO217.out))) (Kd.R_lt (kr_ HO220.out))) (below_size hb_)); replace HO211 := Aside0.mk (Kd.R_elder' (kr_ HO211.out) (Kd.R_base ho12) hb); replace HO214 := Aside0.mk (Kd.R_elder' (kr_ HO214.out) (Kd.R_base ho12) hb); replace HO217 := Aside0.mk (Kd.R_elder' (kr_ HO217.out) (Kd.R_base ho12) hb); replace HO220 := Aside0.mk (Kd.R_elder' (kr_ HO220.out) (Kd.R_base ho12) hb); replace HB := Aside0.mk (below_step hb_ hb); clear hb ho12) | ((with_reducible refine gate_dst (N := 19) rfl ?_); refine Kd.R_lit (Kd.int .i64) _ 2 ?hg (N := 19) ?hd (xs := ([1, (-1)] : List Int)) (inner := [.int .i64 1, .int .i64 (-1)]) (ok := fun _ => True) (okp := fun _ => True) ?hr ?hp (fun _ hk => hk) trivial (Below.refl _ _) (Nat.le_refl _) (by simp) ?_; (case hd => rfl); (case hg => rfl); (case hr => first | (go_simp; done) | (go_simp; rfl)); (case hp => exact (Reps.one (show Kd.M (Kd.int .i64) _ _ _ 1 [.int .i64 1] from rfl) (Reps.one (show Kd.M (Kd.int .i64) _ _ _ (-1) [.int .i64 (-1)] from rfl) (Reps.none _ _)))); intro v225 w13 ho14 hb hg_ hnew_; clear hg_ hnew_; (first | rw [← Ny224.out] at ho14 | (simp only [Int.reduceToNat] at ho14; rw [← Ny224.out] at ho14)); have HO226 := Aside0.mk (Kd.R_lower (Kd.R_new' (Kd.R_new' (Kd.R_new' (Kd.R_new' (Kd.R_new' ho14 (Kd.R_lt (kr_ HO211.out))) (Kd.R_lt (kr_ HO214.out))) (Kd.R_lt (kr_ HO217.out))) (Kd.R_lt (kr_ HO220.out))) (Kd.R_lt (kr_ HO223.out))) (below_size hb_)); replace HO211 := Aside0.mk (Kd.R_elder' (kr_ HO211.out) (Kd.R_base ho14) hb); replace HO214 := Aside0.mk (Kd.R_elder' (kr_ HO214.out) (Kd.R_base ho14) hb); replace HO217 := Aside0.mk (Kd.R_elder' (kr_ HO217.out) (Kd.R_base ho14) hb); replace HO220 := Aside0.mk (Kd.R_elder' (kr_ HO220.out) (Kd.R_base ho14) hb); replace HO223 := Aside0.mk (Kd.R_elder' (kr_ HO223.out) (Kd.R_base ho14) hb); replace HB := Aside0.mk (below_step hb_ hb); clear hb ho14; obtain ⟨Ao15, co15, eo15⟩ := Kd.R_slice HO211.out; subst eo15; obtain ⟨Ao16, co16, eo16⟩ := Kd.R_slice HO214.out; subst eo16; obtain ⟨Ao17, co17, eo17⟩ := Kd.R_slice HO217.out; subst eo17; obtain ⟨Ao18, co18, eo18⟩ := Kd.R_slice HO220.out; subst eo18; obtain ⟨Ao19, co19, eo19⟩ := Kd.R_slice HO223.out; subst eo19; obtain ⟨Ao20, co20, eo20⟩ := Kd.R_slice HO226.out; subst eo20) | ((with_reducible refine gate_dst (N := 20) rfl ?_); refine Kd.N_lit (Kd.slice 2 (Kd.int .i64)) _ 111 ?hg (N' := 20) ?hd (xs := ([y209, y212, y215, y218, y221, y224] : List (List Int))) (inner := [.slice Ao15 y209.length co15, .slice Ao16 y212.length co16, .slice Ao17 y215.length co17, .slice Ao18 y218.length co18, .slice Ao19 y221.length co19, .slice Ao20 y224.length co20]) (ok := (fun _ => True)) (okp := (fun _ => True)) ?hr ?hp (fun _ hk => hk) ((show ∀ k_, w13.heap.size ≤ k_ → (fun _ => True) k_ from fun k_ hk => trivial) _ (Nat.le_refl _)) (Below.refl _ _) (Nat.le_refl _) (by simp) ?_; (case hd => rfl); (case hg => rfl); (case hr => first | (go_simp; done) | (go_simp; rfl)); (case hp => exact (Reps.one (show Kd.FK (Kd.slice 2 (Kd.int .i64)) _ _ y209 [.slice Ao15 y209.length co15] from (Kd.FK_slice_mk (Kd.R_reads' (Kd.R_mono (ok' := (fun _ => True)) (HO211.out) (fun k_ hk => trivial))).2.1 (Kd.R_F (Kd.R_mono (ok' := (fun _ => True)) (HO211.out) (fun k_ hk => trivial))))) (Reps.one (show Kd.FK (Kd.slice 2 (Kd.int .i64)) _ _ y212 [.slice Ao16 y212.length co16] from (Kd.FK_slice_mk (Kd.R_reads' (Kd.R_mono (ok' := (fun _ => True)) (HO214.out) (fun k_ hk => trivial))).2.1 (Kd.R_F (Kd.R_mono (ok' := (fun _ => True)) (HO214.out) (fun k_ hk => trivial))))) (Reps.one (show Kd.FK (Kd.slice 2 (Kd.int .i64)) _ _ y215 [.slice Ao17 y215.length co17] from (Kd.FK_slice_mk (Kd.R_reads' (Kd.R_mono (ok' := (fun _ => True)) (HO217.out) (fun k_ hk => trivial))).2.1 (Kd.R_F (Kd.R_mono (ok' := (fun _ => True)) (HO217.out) (fun k_ hk => trivial))))) (Reps.one (show Kd.FK (Kd.slice 2 (Kd.int .i64)) _ _ y218 [.slice Ao18 y218.length co18] from (Kd.FK_slice_mk (Kd.R_reads' (Kd.R_mono (ok' := (fun _ => True)) (HO220.out) (fun k_ hk => trivial))).2.1 (Kd.R_F (Kd.R_mono (ok' := (fun _ => True)) (HO220.out) (fun k_ hk => trivial))))) (Reps.one (show Kd.FK (Kd.slice 2 (Kd.int .i64)) _ _ y221 [.slice Ao19 y221.length co19] from (Kd.FK_slice_mk (Kd.R_reads' (Kd.R_mono (ok' := (fun _ => True)) (HO223.out) (fun k_ hk => trivial))).2.1 (Kd.R_F (Kd.R_mono (ok' := (fun _ => True)) (HO223.out) (fun k_ hk => trivial))))) (Reps.one (show Kd.FK (Kd.slice 2 (Kd.int .i64)) _ _ y224 [.slice Ao20 y224.length co20] from (Kd.FK_slice_mk (Kd.R_reads' (Kd.R_mono (ok' := (fun _ => True)) (HO226.out) (fun k_ hk => trivial))).2.1 (Kd.R_F (Kd.R_mono (ok' := (fun _ => True)) (HO226.out) (fun k_ hk => trivial))))) (Reps.none _ _)))))))); intro v228 w21 ho22 hb hg_ hnew_; clear hg_ hnew_; (first | rw [← Ny227.out] at ho22 | (simp only [Int.reduceToNat] at ho22; rw [← Ny227.out] at ho22)); have HO229 := Aside0.mk (Kd.N_lower ho22 (below_size hb_)); replace HB := Aside0.mk (below_step hb_ hb); clear HO211; clear HO214; clear HO217; clear HO220; clear HO223; clear HO226; clear hb ho22; obtain ⟨Ao23, co23, eo23⟩ := Kd.N_slice HO229.out; subst eo23))
 repeat (go_quiet (first | ((with_reducible refine gate_dst (N := 14) rfl ?_); refine Kd.R_lit (Kd.int .i64) _ 2 ?hg (N := 14) ?hd (xs := ([1, 0] : List Int)) (inner := [.int .i64 1, .int .i64 0]) (ok := fun _ => True) (okp := fun _ => True) ?hr ?hp (fun _ hk => hk) trivial (Below.refl _ _) (Nat.le_refl _) (by simp) ?_; (case hd => rfl); (case hg => rfl); (case hr => first | (go_simp; done) | (go_simp; rfl)); (case hp => exact (Reps.one (show Kd.M (Kd.int .i64) _ _ _ 1 [.int .i64 1] from rfl) (Reps.one (show Kd.M (Kd.int .i64) _ _ _ 0 [.int .i64 0] from rfl) (Reps.none _ _)))); intro v210 w3 ho4 hb hg_ hnew_; clear hg_ hnew_; (first | rw [← Ny209.out] at ho4 | (simp only [Int.reduceToNat] at ho4; rw [← Ny209.out] at ho4)); have HO211 := Aside0.mk (Kd.R_lower ho4 (below_size hb_)); replace HB := Aside0.mk (below_step hb_ hb); clear hb ho4) | ((with_reducible refine gate_dst (N := 15) rfl ?_); refine Kd.R_lit (Kd.int .i64) _ 2 ?hg (N := 15) ?hd (xs := ([0, 1] : List Int)) (inner := [.int .i64 0, .int .i64 1]) (ok := fun _ => True) (okp := fun _ => True) ?hr ?hp (fun _ hk => hk) trivial (Below.refl _ _) (Nat.le_refl _) (by simp) ?_; (case hd => rfl); (case hg => rfl); (case hr => first | (go_simp; done) | (go_simp; rfl)); (case hp => exact (Reps.one (show Kd.M (Kd.int .i64) _ _ _ 0 [.int .i64 0] from rfl) (Reps.one (show Kd.M (Kd.int .i64) _ _ _ 1 [.int .i64 1] from rfl) (Reps.none _ _)))); intro v213 w5 ho6 hb hg_ hnew_; clear hg_ hnew_; (first | rw [← Ny212.out] at ho6 | (simp only [Int.reduceToNat] at ho6; rw [← Ny212.out] at ho6)); have HO214 := Aside0.mk (Kd.R_lower (Kd.R_new' ho6 (Kd.R_lt (kr_ HO211.out))) (below_size hb_)); replace HO211 := Aside0.mk (Kd.R_elder' (kr_ HO211.out) (Kd.R_base ho6) hb); replace HB := Aside0.mk (below_step hb_ hb); clear hb ho6) | ((with_reducible refine gate_dst (N := 16) rfl ?_); refine Kd.R_lit (Kd.int .i64) _ 2 ?hg (N := 16) ?hd (xs := ([(-1), 1] : List Int)) (inner := [.int .i64 (-1), .int .i64 1]) (ok := fun _ => True) (okp := fun _ => True) ?hr ?hp (fun _ hk => hk) trivial (Below.refl _ _) (Nat.le_refl _) (by simp) ?_; (case hd => rfl); (case hg => rfl); (case hr => first | (go_simp; done) | (go_simp; rfl)); (case hp => exact (Reps.one (show Kd.M (Kd.int .i64) _ _ _ (-1) [.int .i64 (-1)] from rfl) (Reps.one (show Kd.M (Kd.int .i64) _ _ _ 1 [.int .i64 1] from rfl) (Reps.none _ _)))); intro v216 w7 ho8 hb hg_ hnew_; clear hg_ hnew_; (first | rw [← Ny215.out] at ho8 | (simp only [Int.reduceToNat] at ho8; rw [← Ny215.out] at ho8)); have HO217 := Aside0.mk (Kd.R_lower (Kd.R_new' (Kd.R_new' ho8 (Kd.R_lt (kr_ HO211.out))) (Kd.R_lt (kr_ HO214.out))) (below_size hb_)); replace HO211 := Aside0.mk (Kd.R_elder' (kr_ HO211.out) (Kd.R_base ho8) hb); replace HO214 := Aside0.mk (Kd.R_elder' (kr_ HO214.out) (Kd.R_base ho8) hb); replace HB := Aside0.mk (below_step hb_ hb); clear hb ho8) | ((with_reducible refine gate_dst (N := 17) rfl ?_); refine Kd.R_lit (Kd.int .i64) _ 2 ?hg (N := 17) ?hd (xs := ([(-1), 0] : List Int)) (inner := [.int .i64 (-1), .int .i64 0]) (ok := fun _ => True) (okp := fun _ => True) ?hr ?hp (fun _ hk => hk) trivial (Below.refl _ _) (Nat.le_refl _) (by simp) ?_; (case hd => rfl); (case hg => rfl); (case hr => first | (go_simp; done) | (go_simp; rfl)); (case hp => exact (Reps.one (show Kd.M (Kd.int .i64) _ _ _ (-1) [.int .i64 (-1)] from rfl) (Reps.one (show Kd.M (Kd.int .i64) _ _ _ 0 [.int .i64 0] from rfl) (Reps.none _ _)))); intro v219 w9 ho10 hb hg_ hnew_; clear hg_ hnew_; (first | rw [← Ny218.out] at ho10 | (simp only [Int.reduceToNat] at ho10; rw [← Ny218.out] at ho10)); have HO220 := Aside0.mk (Kd.R_lower (Kd.R_new' (Kd.R_new' (Kd.R_new' ho10 (Kd.R_lt (kr_ HO211.out))) (Kd.R_lt (kr_ HO214.out))) (Kd.R_lt (kr_ HO217.out))) (below_size hb_)); replace HO211 := Aside0.mk (Kd.R_elder' (kr_ HO211.out) (Kd.R_base ho10) hb); replace HO214 := Aside0.mk (Kd.R_elder' (kr_ HO214.out) (Kd.R_base ho10) hb); replace HO217 := Aside0.mk (Kd.R_elder' (kr_ HO217.out) (Kd.R_base ho10) hb); replace HB := Aside0.mk (below_step hb_ hb); clear hb ho10) | ((with_reducible refine gate_dst (N := 18) rfl ?_); refine Kd.R_lit (Kd.int .i64) _ 2 ?hg (N := 18) ?hd (xs := ([0, (-1)] : List Int)) (inner := [.int .i64 0, .int .i64 (-1)]) (ok := fun _ => True) (okp := fun _ => True) ?hr ?hp (fun _ hk => hk) trivial (Below.refl _ _) (Nat.le_refl _) (by simp) ?_; (case hd => rfl); (case hg => rfl); (case hr => first | (go_simp; done) | (go_simp; rfl)); (case hp => exact (Reps.one (show Kd.M (Kd.int .i64) _ _ _ 0 [.int .i64 0] from rfl) (Reps.one (show Kd.M (Kd.int .i64) _ _ _ (-1) [.int .i64 (-1)] from rfl) (Reps.none _ _)))); intro v222 w11 ho12 hb hg_ hnew_; clear hg_ hnew_; (first | rw [← Ny221.out] at ho12 | (simp only [Int.reduceToNat] at ho12; rw [← Ny221.out] at ho12)); have HO223 := Aside0.mk (Kd.R_lower (Kd.R_new' (Kd.R_new' (Kd.R_new' (Kd.R_new' ho12 (Kd.R_lt (kr_ HO211.out))) (Kd.R_lt (kr_ HO214.out))) (Kd.R_lt (kr_ HO217.out))) (Kd.R_lt (kr_ HO220.out))) (below_size hb_)); replace HO211 := Aside0.mk (Kd.R_elder' (kr_ HO211.out) (Kd.R_base ho12) hb); replace HO214 := Aside0.mk (Kd.R_elder' (kr_ HO214.out) (Kd.R_base ho12) hb); replace HO217 := Aside0.mk (Kd.R_elder' (kr_ HO217.out) (Kd.R_base ho12) hb); replace HO220 := Aside0.mk (Kd.R_elder' (kr_ HO220.out) (Kd.R_base ho12) hb); replace HB := Aside0.mk (below_step hb_ hb); clear hb ho12) | ((with_reducible refine gate_dst (N := 19) rfl ?_); refine Kd.R_lit (Kd.int .i64) _ 2 ?hg (N := 19) ?hd (xs := ([1, (-1)] : List Int)) (inner := [.int .i64 1, .int .i64 (-1)]) (ok := fun _ => True) (okp := fun _ => True) ?hr ?hp (fun _ hk => hk) trivial (Below.refl _ _) (Nat.le_refl _) (by simp) ?_; (case hd => rfl); (case hg => rfl); (case hr => first | (go_simp; done) | (go_simp; rfl)); (case hp => exact (Reps.one (show Kd.M (Kd.int .i64) _ _ _ 1 [.int .i64 1] from rfl) (Reps.one (show Kd.M (Kd.int .i64) _ _ _ (-1) [.int .i64 (-1)] from rfl) (Reps.none _ _)))); intro v225 w13 ho14 hb hg_ hnew_; clear hg_ hnew_; (first | rw [← Ny224.out] at ho14 | (simp only [Int.reduceToNat] at ho14; rw [← Ny224.out] at ho14)); have HO226 := Aside0.mk (Kd.R_lower (Kd.R_new' (Kd.R_new' (Kd.R_new' (Kd.R_new' (Kd.R_new' ho14 (Kd.R_lt (kr_ HO211.out))) (Kd.R_lt (kr_ HO214.out))) (Kd.R_lt (kr_ HO217.out))) (Kd.R_lt (kr_ HO220.out))) (Kd.R_lt (kr_ HO223.out))) (below_size hb_)); replace HO211 := Aside0.mk (Kd.R_elder' (kr_ HO211.out) (Kd.R_base ho14) hb); replace HO214 := Aside0.mk (Kd.R_elder' (kr_ HO214.out) (Kd.R_base ho14) hb); replace HO217 := Aside0.mk (Kd.R_elder' (kr_ HO217.out) (Kd.R_base ho14) hb); replace HO220 := Aside0.mk (Kd.R_elder' (kr_ HO220.out) (Kd.R_base ho14) hb); replace HO223 := Aside0.mk (Kd.R_elder' (kr_ HO223.out) (Kd.R_base ho14) hb); replace HB := Aside0.mk (below_step hb_ hb); clear hb ho14; obtain ⟨Ao15, co15, eo15⟩ := Kd.R_slice HO211.out; subst eo15; obtain ⟨Ao16, co16, eo16⟩ := Kd.R_slice HO214.out; subst eo16; obtain ⟨Ao17, co17, eo17⟩ := Kd.R_slice HO217.out; subst eo17; obtain ⟨Ao18, co18, eo18⟩ := Kd.R_slice HO220.out; subst eo18; obtain ⟨Ao19, co19, eo19⟩ := Kd.R_slice HO223.out; subst eo19; obtain ⟨Ao20, co20, eo20⟩ := Kd.R_slice HO226.out; subst eo20) | ((with_reducible refine gate_dst (N := 20) rfl ?_); refine Kd.N_lit (Kd.slice 2 (Kd.int .i64)) _ 111 ?hg (N' := 20) ?hd (xs := ([y209, y212, y215, y218, y221, y224] : List (List Int))) (inner := [.slice Ao15 y209.length co15, .slice Ao16 y212.length co16, .slice Ao17 y215.length co17, .slice Ao18 y218.length co18, .slice Ao19 y221.length co19, .slice Ao20 y224.length co20]) (ok := (fun _ => True)) (okp := (fun _ => True)) ?hr ?hp (fun _ hk => hk) ((show ∀ k_, w13.heap.size ≤ k_ → (fun _ => True) k_ from fun k_ hk => trivial) _ (Nat.le_refl _)) (Below.refl _ _) (Nat.le_refl _) (by simp) ?_; (case hd => rfl); (case hg => rfl); (case hr => first | (go_simp; done) | (go_simp; rfl)); (case hp => exact (Reps.one (show Kd.FK (Kd.slice 2 (Kd.int .i64)) _ _ y209 [.slice Ao15 y209.length co15] from (Kd.FK_slice_mk (Kd.R_reads' (Kd.R_mono (ok' := (fun _ => True)) (HO211.out) (fun k_ hk => trivial))).2.1 (Kd.R_F (Kd.R_mono (ok' := (fun _ => True)) (HO211.out) (fun k_ hk => trivial))))) (Reps.one (show Kd.FK (Kd.slice 2 (Kd.int .i64)) _ _ y212 [.slice Ao16 y212.length co16] from (Kd.FK_slice_mk (Kd.R_reads' (Kd.R_mono (ok' := (fun _ => True)) (HO214.out) (fun k_ hk => trivial))).2.1 (Kd.R_F (Kd.R_mono (ok' := (fun _ => True)) (HO214.out) (fun k_ hk => trivial))))) (Reps.one (show Kd.FK (Kd.slice 2 (Kd.int .i64)) _ _ y215 [.slice Ao17 y215.length co17] from (Kd.FK_slice_mk (Kd.R_reads' (Kd.R_mono (ok' := (fun _ => True)) (HO217.out) (fun k_ hk => trivial))).2.1 (Kd.R_F (Kd.R_mono (ok' := (fun _ => True)) (HO217.out) (fun k_ hk => trivial))))) (Reps.one (show Kd.FK (Kd.slice 2 (Kd.int .i64)) _ _ y218 [.slice Ao18 y218.length co18] from (Kd.FK_slice_mk (Kd.R_reads' (Kd.R_mono (ok' := (fun _ => True)) (HO220.out) (fun k_ hk => trivial))).2.1 (Kd.R_F (Kd.R_mono (ok' := (fun _ => True)) (HO220.out) (fun k_ hk => trivial))))) (Reps.one (show Kd.FK (Kd.slice 2 (Kd.int .i64)) _ _ y221 [.slice Ao19 y221.length co19] from (Kd.FK_slice_mk (Kd.R_reads' (Kd.R_mono (ok' := (fun _ => True)) (HO223.out) (fun k_ hk => trivial))).2.1 (Kd.R_F (Kd.R_mono (ok' := (fun _ => True)) (HO223.out) (fun k_ hk => trivial))))) (Reps.one (show Kd.FK (Kd.slice 2 (Kd.int .i64)) _ _ y224 [.slice Ao20 y224.length co20] from (Kd.FK_slice_mk (Kd.R_reads' (Kd.R_mono (ok' := (fun _ => True)) (HO226.out) (fun k_ hk => trivial))).2.1 (Kd.R_F (Kd.R_mono (ok' := (fun _ => True)) (HO226.out) (fun k_ hk => trivial))))) (Reps.none _ _)))))))); intro v228 w21 ho22 hb hg_ hnew_; clear hg_ hnew_; (first | rw [← Ny227.out] at ho22 | (simp only [Int.reduceToNat] at ho22; rw [← Ny227.out] at ho22)); have HO229 := Aside0.mk (Kd.N_lower ho22 (below_size hb_)); replace HB := Aside0.mk (below_step hb_ hb); clear HO211; clear HO214; clear HO217; clear HO220; clear HO223; clear HO226; clear hb ho22; obtain ⟨Ao23, co23, eo23⟩ := Kd.N_slice HO229.out; subst eo23)); try go_wp2_with (first | ((with_reducible refine gate_dst (N := 14) rfl ?_); refine Kd.R_lit (Kd.int .i64) _ 2 ?hg (N := 14) ?hd (xs := ([1, 0] : List Int)) (inner := [.int .i64 1, .int .i64 0]) (ok := fun _ => True) (okp := fun _ => True) ?hr ?hp (fun _ hk => hk) trivial (Below.refl _ _) (Nat.le_refl _) (by simp) ?_; (case hd => rfl); (case hg => rfl); (case hr => first | (go_simp; done) | (go_simp; rfl)); (case hp => exact (Reps.one (show Kd.M (Kd.int .i64) _ _ _ 1 [.int .i64 1] from rfl) (Reps.one (show Kd.M (Kd.int .i64) _ _ _ 0 [.int .i64 0] from rfl) (Reps.none _ _)))); intro v210 w3 ho4 hb hg_ hnew_; clear hg_ hnew_; (first | rw [← Ny209.out] at ho4 | (simp only [Int.reduceToNat] at ho4; rw [← Ny209.out] at ho4)); have HO211 := Aside0.mk (Kd.R_lower ho4 (below_size hb_)); replace HB := Aside0.mk (below_step hb_ hb); clear hb ho4) | ((with_reducible refine gate_dst (N := 15) rfl ?_); refine Kd.R_lit (Kd.int .i64) _ 2 ?hg (N := 15) ?hd (xs := ([0, 1] : List Int)) (inner := [.int .i64 0, .int .i64 1]) (ok := fun _ => True) (okp := fun _ => True) ?hr ?hp (fun _ hk => hk) trivial (Below.refl _ _) (Nat.le_refl _) (by simp) ?_; (case hd => rfl); (case hg => rfl); (case hr => first | (go_simp; done) | (go_simp; rfl)); (case hp => exact (Reps.one (show Kd.M (Kd.int .i64) _ _ _ 0 [.int .i64 0] from rfl) (Reps.one (show Kd.M (Kd.int .i64) _ _ _ 1 [.int .i64 1] from rfl) (Reps.none _ _)))); intro v213 w5 ho6 hb hg_ hnew_; clear hg_ hnew_; (first | rw [← Ny212.out] at ho6 | (simp only [Int.reduceToNat] at ho6; rw [← Ny212.out] at ho6)); have HO214 := Aside0.mk (Kd.R_lower (Kd.R_new' ho6 (Kd.R_lt (kr_ HO211.out))) (below_size hb_)); replace HO211 := Aside0.mk (Kd.R_elder' (kr_ HO211.out) (Kd.R_base ho6) hb); replace HB := Aside0.mk (below_step hb_ hb); clear hb ho6) | ((with_reducible refine gate_dst (N := 16) rfl ?_); refine Kd.R_lit (Kd.int .i64) _ 2 ?hg (N := 16) ?hd (xs := ([(-1), 1] : List Int)) (inner := [.int .i64 (-1), .int .i64 1]) (ok := fun _ => True) (okp := fun _ => True) ?hr ?hp (fun _ hk => hk) trivial (Below.refl _ _) (Nat.le_refl _) (by simp) ?_; (case hd => rfl); (case hg => rfl); (case hr => first | (go_simp; done) | (go_simp; rfl)); (case hp => exact (Reps.one (show Kd.M (Kd.int .i64) _ _ _ (-1) [.int .i64 (-1)] from rfl) (Reps.one (show Kd.M (Kd.int .i64) _ _ _ 1 [.int .i64 1] from rfl) (Reps.none _ _)))); intro v216 w7 ho8 hb hg_ hnew_; clear hg_ hnew_; (first | rw [← Ny215.out] at ho8 | (simp only [Int.reduceToNat] at ho8; rw [← Ny215.out] at ho8)); have HO217 := Aside0.mk (Kd.R_lower (Kd.R_new' (Kd.R_new' ho8 (Kd.R_lt (kr_ HO211.out))) (Kd.R_lt (kr_ HO214.out))) (below_size hb_)); replace HO211 := Aside0.mk (Kd.R_elder' (kr_ HO211.out) (Kd.R_base ho8) hb); replace HO214 := Aside0.mk (Kd.R_elder' (kr_ HO214.out) (Kd.R_base ho8) hb); replace HB := Aside0.mk (below_step hb_ hb); clear hb ho8) | ((with_reducible refine gate_dst (N := 17) rfl ?_); refine Kd.R_lit (Kd.int .i64) _ 2 ?hg (N := 17) ?hd (xs := ([(-1), 0] : List Int)) (inner := [.int .i64 (-1), .int .i64 0]) (ok := fun _ => True) (okp := fun _ => True) ?hr ?hp (fun _ hk => hk) trivial (Below.refl _ _) (Nat.le_refl _) (by simp) ?_; (case hd => rfl); (case hg => rfl); (case hr => first | (go_simp; done) | (go_simp; rfl)); (case hp => exact (Reps.one (show Kd.M (Kd.int .i64) _ _ _ (-1) [.int .i64 (-1)] from rfl) (Reps.one (show Kd.M (Kd.int .i64) _ _ _ 0 [.int .i64 0] from rfl) (Reps.none _ _)))); intro v219 w9 ho10 hb hg_ hnew_; clear hg_ hnew_; (first | rw [← Ny218.out] at ho10 | (simp only [Int.reduceToNat] at ho10; rw [← Ny218.out] at ho10)); have HO220 := Aside0.mk (Kd.R_lower (Kd.R_new' (Kd.R_new' (Kd.R_new' ho10 (Kd.R_lt (kr_ HO211.out))) (Kd.R_lt (kr_ HO214.out))) (Kd.R_lt (kr_ HO217.out))) (below_size hb_)); replace HO211 := Aside0.mk (Kd.R_elder' (kr_ HO211.out) (Kd.R_base ho10) hb); replace HO214 := Aside0.mk (Kd.R_elder' (kr_ HO214.out) (Kd.R_base ho10) hb); replace HO217 := Aside0.mk (Kd.R_elder' (kr_ HO217.out) (Kd.R_base ho10) hb); replace HB := Aside0.mk (below_step hb_ hb); clear hb ho10) | ((with_reducible refine gate_dst (N := 18) rfl ?_); refine Kd.R_lit (Kd.int .i64) _ 2 ?hg (N := 18) ?hd (xs := ([0, (-1)] : List Int)) (inner := [.int .i64 0, .int .i64 (-1)]) (ok := fun _ => True) (okp := fun _ => True) ?hr ?hp (fun _ hk => hk) trivial (Below.refl _ _) (Nat.le_refl _) (by simp) ?_; (case hd => rfl); (case hg => rfl); (case hr => first | (go_simp; done) | (go_simp; rfl)); (case hp => exact (Reps.one (show Kd.M (Kd.int .i64) _ _ _ 0 [.int .i64 0] from rfl) (Reps.one (show Kd.M (Kd.int .i64) _ _ _ (-1) [.int .i64 (-1)] from rfl) (Reps.none _ _)))); intro v222 w11 ho12 hb hg_ hnew_; clear hg_ hnew_; (first | rw [← Ny221.out] at ho12 | (simp only [Int.reduceToNat] at ho12; rw [← Ny221.out] at ho12)); have HO223 := Aside0.mk (Kd.R_lower (Kd.R_new' (Kd.R_new' (Kd.R_new' (Kd.R_new' ho12 (Kd.R_lt (kr_ HO211.out))) (Kd.R_lt (kr_ HO214.out))) (Kd.R_lt (kr_ HO217.out))) (Kd.R_lt (kr_ HO220.out))) (below_size hb_)); replace HO211 := Aside0.mk (Kd.R_elder' (kr_ HO211.out) (Kd.R_base ho12) hb); replace HO214 := Aside0.mk (Kd.R_elder' (kr_ HO214.out) (Kd.R_base ho12) hb); replace HO217 := Aside0.mk (Kd.R_elder' (kr_ HO217.out) (Kd.R_base ho12) hb); replace HO220 := Aside0.mk (Kd.R_elder' (kr_ HO220.out) (Kd.R_base ho12) hb); replace HB := Aside0.mk (below_step hb_ hb); clear hb ho12) | ((with_reducible refine gate_dst (N := 19) rfl ?_); refine Kd.R_lit (Kd.int .i64) _ 2 ?hg (N := 19) ?hd (xs := ([1, (-1)] : List Int)) (inner := [.int .i64 1, .int .i64 (-1)]) (ok := fun _ => True) (okp := fun _ => True) ?hr ?hp (fun _ hk => hk) trivial (Below.refl _ _) (Nat.le_refl _) (by simp) ?_; (case hd => rfl); (case hg => rfl); (case hr => first | (go_simp; done) | (go_simp; rfl)); (case hp => exact (Reps.one (show Kd.M (Kd.int .i64) _ _ _ 1 [.int .i64 1] from rfl) (Reps.one (show Kd.M (Kd.int .i64) _ _ _ (-1) [.int .i64 (-1)] from rfl) (Reps.none _ _)))); intro v225 w13 ho14 hb hg_ hnew_; clear hg_ hnew_; (first | rw [← Ny224.out] at ho14 | (simp only [Int.reduceToNat] at ho14; rw [← Ny224.out] at ho14)); have HO226 := Aside0.mk (Kd.R_lower (Kd.R_new' (Kd.R_new' (Kd.R_new' (Kd.R_new' (Kd.R_new' ho14 (Kd.R_lt (kr_ HO211.out))) (Kd.R_lt (kr_ HO214.out))) (Kd.R_lt (kr_ HO217.out))) (Kd.R_lt (kr_ HO220.out))) (Kd.R_lt (kr_ HO223.out))) (below_size hb_)); replace HO211 := Aside0.mk (Kd.R_elder' (kr_ HO211.out) (Kd.R_base ho14) hb); replace HO214 := Aside0.mk (Kd.R_elder' (kr_ HO214.out) (Kd.R_base ho14) hb); replace HO217 := Aside0.mk (Kd.R_elder' (kr_ HO217.out) (Kd.R_base ho14) hb); replace HO220 := Aside0.mk (Kd.R_elder' (kr_ HO220.out) (Kd.R_base ho14) hb); replace HO223 := Aside0.mk (Kd.R_elder' (kr_ HO223.out) (Kd.R_base ho14) hb); replace HB := Aside0.mk (below_step hb_ hb); clear hb ho14; obtain ⟨Ao15, co15, eo15⟩ := Kd.R_slice HO211.out; subst eo15; obtain ⟨Ao16, co16, eo16⟩ := Kd.R_slice HO214.out; subst eo16; obtain ⟨Ao17, co17, eo17⟩ := Kd.R_slice HO217.out; subst eo17; obtain ⟨Ao18, co18, eo18⟩ := Kd.R_slice HO220.out; subst eo18; obtain ⟨Ao19, co19, eo19⟩ := Kd.R_slice HO223.out; subst eo19; obtain ⟨Ao20, co20, eo20⟩ := Kd.R_slice HO226.out; subst eo20) | ((with_reducible refine gate_dst (N := 20) rfl ?_); refine Kd.N_lit (Kd.slice 2 (Kd.int .i64)) _ 111 ?hg (N' := 20) ?hd (xs := ([y209, y212, y215, y218, y221, y224] : List (List Int))) (inner := [.slice Ao15 y209.length co15, .slice Ao16 y212.length co16, .slice Ao17 y215.length co17, .slice Ao18 y218.length co18, .slice Ao19 y221.length co19, .slice Ao20 y224.length co20]) (ok := (fun _ => True)) (okp := (fun _ => True)) ?hr ?hp (fun _ hk => hk) ((show ∀ k_, w13.heap.size ≤ k_ → (fun _ => True) k_ from fun k_ hk => trivial) _ (Nat.le_refl _)) (Below.refl _ _) (Nat.le_refl _) (by simp) ?_; (case hd => rfl); (case hg => rfl); (case hr => first | (go_simp; done) | (go_simp; rfl)); (case hp => exact (Reps.one (show Kd.FK (Kd.slice 2 (Kd.int .i64)) _ _ y209 [.slice Ao15 y209.length co15] from (Kd.FK_slice_mk (Kd.R_reads' (Kd.R_mono (ok' := (fun _ => True)) (HO211.out) (fun k_ hk => trivial))).2.1 (Kd.R_F (Kd.R_mono (ok' := (fun _ => True)) (HO211.out) (fun k_ hk => trivial))))) (Reps.one (show Kd.FK (Kd.slice 2 (Kd.int .i64)) _ _ y212 [.slice Ao16 y212.length co16] from (Kd.FK_slice_mk (Kd.R_reads' (Kd.R_mono (ok' := (fun _ => True)) (HO214.out) (fun k_ hk => trivial))).2.1 (Kd.R_F (Kd.R_mono (ok' := (fun _ => True)) (HO214.out) (fun k_ hk => trivial))))) (Reps.one (show Kd.FK (Kd.slice 2 (Kd.int .i64)) _ _ y215 [.slice Ao17 y215.length co17] from (Kd.FK_slice_mk (Kd.R_reads' (Kd.R_mono (ok' := (fun _ => True)) (HO217.out) (fun k_ hk => trivial))).2.1 (Kd.R_F (Kd.R_mono (ok' := (fun _ => True)) (HO217.out) (fun k_ hk => trivial))))) (Reps.one (show Kd.FK (Kd.slice 2 (Kd.int .i64)) _ _ y218 [.slice Ao18 y218.length co18] from (Kd.FK_slice_mk (Kd.R_reads' (Kd.R_mono (ok' := (fun _ => True)) (HO220.out) (fun k_ hk => trivial))).2.1 (Kd.R_F (Kd.R_mono (ok' := (fun _ => True)) (HO220.out) (fun k_ hk => trivial))))) (Reps.one (show Kd.FK (Kd.slice 2 (Kd.int .i64)) _ _ y221 [.slice Ao19 y221.length co19] from (Kd.FK_slice_mk (Kd.R_reads' (Kd.R_mono (ok' := (fun _ => True)) (HO223.out) (fun k_ hk => trivial))).2.1 (Kd.R_F (Kd.R_mono (ok' := (fun _ => True)) (HO223.out) (fun k_ hk => trivial))))) (Reps.one (show Kd.FK (Kd.slice 2 (Kd.int .i64)) _ _ y224 [.slice Ao20 y224.length co20] from (Kd.FK_slice_mk (Kd.R_reads' (Kd.R_mono (ok' := (fun _ => True)) (HO226.out) (fun k_ hk => trivial))).2.1 (Kd.R_F (Kd.R_mono (ok' := (fun _ => True)) (HO226.out) (fun k_ hk => trivial))))) (Reps.none _ _)))))))); intro v228 w21 ho22 hb hg_ hnew_; clear hg_ hnew_; (first | rw [← Ny227.out] at ho22 | (simp only [Int.reduceToNat] at ho22; rw [← Ny227.out] at ho22)); have HO229 := Aside0.mk (Kd.N_lower ho22 (below_size hb_)); replace HB := Aside0.mk (below_step hb_ hb); clear HO211; clear HO214; clear HO217; clear HO220; clear HO223; clear HO226; clear hb ho22; obtain ⟨Ao23, co23, eo23⟩ := Kd.N_slice HO229.out; subst eo23)))
 go_loopg [1, 6, 23] k (fun kq v1 v6 v23 w' => ∃ (x1_1 : Int) (x6_1 : Int) (x23_1 : Int), v1 = .int .i64 x1_1 ∧ v6 = .int .i64 x6_1 ∧ v23 = .int .i64 x23_1 ∧ Aside0 (honeycombref07_turned.l0 kq a0 x1_1 y227 x6_1 y227 (y227.length : Int) x23_1 = some r) ∧ Aside0 (kq ≤ k) ∧ Aside0 (Kd.N (Kd.slice 2 (Kd.int .i64)) 111 w' w.heap.size (fun _ => True) (.slice Ao23 y227.length co23) y227) ∧ Aside0 (Kd.N (Kd.slice 2 (Kd.int .i64)) 111 w' w.heap.size (fun _ => True) (.slice Ao23 y227.length co23) y227) ∧ Aside0 (Below w.heap.size w w'))
 case atStart => exact ⟨(a1), (0), (0), rs_, rs_, rs_, H', ⟨Nat.le_refl _⟩, ⟨kn_ HO229.out⟩, ⟨kn_ HO229.out⟩, ⟨by repeat (first | (with_reducible first | exact HB.out | apply ba_ | apply bn_ | apply bd_) | exact HB.out)⟩⟩
 case round =>
  clear H'
  try clear p2
  try clear c5
  obtain ⟨x1_1, x6_1, x23_1, rfl, rfl, rfl, HA, HK1, HO_5, HO_21, HB⟩ := hrel
  cases gk with
  | zero => exact absurd HA.out (by simp [honeycombref07_turned.l0])
  | succ k1 =>
   have H := HA.out
   clear HA
   simp only [honeycombref07_turned.l0] at H
   by_cases c24 : x23_1 < (y227.length : Int)
   rotate_left
   ·
    rw [if_neg c24] at H
    have c24b0 : decide (x23_1 < (y227.length : Int)) = false := decide_eq_false c24
    clear c24
    obtain rfl := Option.some.inj H
    go_wp2
    repeat (go_quiet (fail); try go_wp2)
    go_ret
    exact ⟨er_, hb_⟩
   rw [if_pos c24] at H
   have c24b0 : decide (x23_1 < (y227.length : Int)) = true := decide_eq_true c24
   clear c24
   by_cases c25 : 0 ≤ x23_1
   rotate_left
   ·
    rw [if_neg c25] at H
    exact absurd H (by simp)
   rw [if_pos c25] at H
   have c25b0 : decide (0 ≤ x23_1) = true := decide_eq_true c25
   clear c25
   by_cases c26 : x23_1 < (y227.length : Int)
   rotate_left
   ·
    rw [if_neg c26] at H
    exact absurd H (by simp)
   rw [if_pos c26] at H
   have c26b0 : decide (x23_1 < (y227.length : Int)) = true := decide_eq_true c26
   clear c26
   by_cases c27 : 0 < ((rd_L10 y227 x23_1).length : Int)
   rotate_left
   ·
    rw [if_neg c27] at H
    exact absurd H (by simp)
   rw [if_pos c27] at H
   have c27b0 : decide (0 < ((rd_L10 y227 x23_1).length : Int)) = true := decide_eq_true c27
   have c27b1 : decide (0 < (rd_L10 y227 x23_1).length) = true := decide_eq_true (by omega)
   clear c27
   by_cases c28 : 1 < ((rd_L10 y227 x23_1).length : Int)
   rotate_left
   ·
    rw [if_neg c28] at H
    exact absurd H (by simp)
   rw [if_pos c28] at H
   have c28b0 : decide (1 < ((rd_L10 y227 x23_1).length : Int)) = true := decide_eq_true c28
   have c28b1 : decide (1 < (rd_L10 y227 x23_1).length) = true := decide_eq_true (by omega)
   clear c28
   replace H := Option.bind_eq_some_iff.mp H
   obtain ⟨⟨t233, t234⟩, A290, H⟩ := H
   replace H : (honeycombref07_turned.l1 k1 a0 x1_1 y227 x6_1 t233 t234 1 y227 (y227.length : Int) x23_1 y227 (y227.length : Int) 0) = some r := H
   have A29 := Aside0.mk A290
   clear A290
   have H' := Aside0.mk H
   clear H
   have p230 : 0 ≤ (x23_1 : Int) := of_decide_eq_true as_
   have q230 : x23_1 < (y227.length : Int) := of_decide_eq_true as_
   obtain ⟨ad230, A230_0, c230_0, e230, hx230_0, hl230_0, hi230_0⟩ := at_L10 (Kd.N_reads' HO_21.out).2.2 x23_1 p230 q230
   cases e230
   obtain ⟨ce230, hce230, hMe230, hcc230⟩ := Kd.N_get HO_21.out [] x23_1 p230 (by first | exact q230 | exact of_decide_eq_true as_ | (have e_ := (Kd.N_reads' HO_21.out).1; omega))
   obtain ⟨ua230_0, uc230_0, rfl, ul230_0, ge230_0⟩ := Kd.FK_slice_open hMe230
   have hv230_0 := hcc230 0 _ rfl
   rw [Nat.add_zero, show ((Kd.slice 2 (Kd.int .i64))).sz = 1 from rfl, Nat.mul_one] at hv230_0
   replace hv230_0 := Option.some.inj (hv230_0.symm.trans hx230_0)
   injection hv230_0 with hva_ hvn_ hvc_
   rw [hva_] at ge230_0
   rw [hvc_] at ul230_0
   have HL230_0 := Aside0.mk (show Kd.V (Kd.int .i64) 2 _ w.heap.size _ _ (rd_L10 y227 x23_1) from Kd.V_mk ul230_0 ge230_0)
   clear hva_ hvn_ hvc_ ge230_0 ul230_0
   clear hcc230 hce230
   have HR230_0 := Aside0.mk hi230_0
   have HC230_0 := Aside0.mk hl230_0
   clear hi230_0 hl230_0
   replace p230 := eq_true p230
   replace q230 := eq_true q230
   have p231 : 0 ≤ (0 : Int) := (by omega)
   have q231 : 0 < ((rd_L10 y227 x23_1).length : Int) := of_decide_eq_true as_
   obtain ⟨ad231, e231, hx231_0⟩ := Kd.at_int (by repeat (first | (with_reducible exact HR230_0.out) | (with_reducible refine Kd.C_alloc ?_ _) | (with_reducible refine Kd.C_drewN ?_ _) | (with_reducible refine Kd.C_drew ?_) | exact HR230_0.out)) 0 p231 q231
   cases e231
   have qi231 : (0 < (rd_L10 y227 x23_1).length) = True := eq_true (by omega)
   (try rw [show ((0 : Int)).toNat = 0 from rfl] at hx231_0)
   (try rw [Addr.add_zero'] at hx231_0)
   replace p231 := eq_true p231
   replace q231 := eq_true q231
   have p232 : 0 ≤ (1 : Int) := (by omega)
   have q232 : 1 < ((rd_L10 y227 x23_1).length : Int) := of_decide_eq_true as_
   obtain ⟨ad232, e232, hx232_0⟩ := Kd.at_int (by repeat (first | (with_reducible exact HR230_0.out) | (with_reducible refine Kd.C_alloc ?_ _) | (with_reducible refine Kd.C_drewN ?_ _) | (with_reducible refine Kd.C_drew ?_) | exact HR230_0.out)) 1 p232 q232
   obtain rfl : ad231 = ad232 := (by injection e232)
   (try simp only [show (1 : Int).toNat = 1 from rfl, Nat.reduceMul, Nat.reduceEqDiff, Go.Addr.add, ↓reduceIte] at hx232_0)
   have qi232 : (1 < (rd_L10 y227 x23_1).length) = True := eq_true (by omega)
   (try rw [show ((1 : Int)).toNat = 1 from rfl] at hx232_0)
   replace p232 := eq_true p232
   replace q232 := eq_true q232
   go_wp2_with (first | (go_at_call 85; (with_reducible refine (honeycombref01_On.calls k1 a0 (rd (rd_L10 y227 x23_1) 0) (rd (rd_L10 y227 x23_1) 1) t233 t234 _ A29.out).mono ?_); rintro e w' ⟨rfl, ⟨nd, rfl⟩⟩; (try first | exact ⟨rfl, _, World.drewN_drewN _ _ _⟩ | exact ⟨rfl, _, Eq.trans (World.drewN_drewN _ _ _) (congrArg (World.drewN _) (Nat.add_assoc _ _ _))⟩)))
   repeat (go_quiet (first | (go_at_call 85; (with_reducible refine (honeycombref01_On.calls k1 a0 (rd (rd_L10 y227 x23_1) 0) (rd (rd_L10 y227 x23_1) 1) t233 t234 _ A29.out).mono ?_); rintro e w' ⟨rfl, ⟨nd, rfl⟩⟩; (try first | exact ⟨rfl, _, World.drewN_drewN _ _ _⟩ | exact ⟨rfl, _, Eq.trans (World.drewN_drewN _ _ _) (congrArg (World.drewN _) (Nat.add_assoc _ _ _))⟩))); try go_wp2_with (first | (go_at_call 85; (with_reducible refine (honeycombref01_On.calls k1 a0 (rd (rd_L10 y227 x23_1) 0) (rd (rd_L10 y227 x23_1) 1) t233 t234 _ A29.out).mono ?_); rintro e w' ⟨rfl, ⟨nd, rfl⟩⟩; (try first | exact ⟨rfl, _, World.drewN_drewN _ _ _⟩ | exact ⟨rfl, _, Eq.trans (World.drewN_drewN _ _ _) (congrArg (World.drewN _) (Nat.add_assoc _ _ _))⟩))))
   go_loopg [6, 11, 40] k1 (fun kq v6 v11 v40 w' => ∃ (x6_2 : Int) (x11_2 : Int) (x40_2 : Int), v6 = .int .i64 x6_2 ∧ v11 = .int .i64 x11_2 ∧ v40 = .int .i64 x40_2 ∧ Aside0 (honeycombref07_turned.l1 kq a0 x1_1 y227 x6_2 t233 t234 x11_2 y227 (y227.length : Int) x23_1 y227 (y227.length : Int) x40_2 = some r) ∧ Aside0 (kq ≤ k1) ∧ Aside0 (Kd.N (Kd.slice 2 (Kd.int .i64)) 111 w' w.heap.size (fun _ => True) (.slice (some ad230) y227.length co23) y227) ∧ Aside0 (Kd.N (Kd.slice 2 (Kd.int .i64)) 111 w' w.heap.size (fun _ => True) (.slice (some ad230) y227.length co23) y227) ∧ Aside0 (Kd.N (Kd.slice 2 (Kd.int .i64)) 111 w' w.heap.size (fun _ => True) (.slice (some ad230) y227.length co23) y227) ∧ Aside0 (Kd.C (Kd.int .i64) w' (some ad231) (rd_L10 y227 x23_1).length (rd_L10 y227 x23_1)) ∧ Aside0 (Below w.heap.size w w'))
   case atStart => exact ⟨(x6_1), (1), (0), rs_, rs_, rs_, H', ⟨Nat.le_refl _⟩, ⟨kn_ HO_5.out⟩, ⟨kn_ HO_21.out⟩, ⟨kn_ HO_5.out⟩, ⟨by repeat (first | (with_reducible exact HR230_0.out) | (with_reducible refine Kd.C_alloc ?_ _) | (with_reducible refine Kd.C_drewN ?_ _) | (with_reducible refine Kd.C_drew ?_) | exact HR230_0.out)⟩, ⟨by repeat (first | (with_reducible first | exact HB.out | apply ba_ | apply bn_ | apply bd_) | exact HB.out)⟩⟩
   case round =>
    clear H'
    try clear c2
    try clear p2
    try clear q2
    try clear hx2
    try clear qi2
    try clear c5
    try clear c23
    try clear p23
    try clear q23
    try clear hx23
    try clear qi23
    try clear c24
    try clear c24b0
    try clear c25
    try clear c25b0
    try clear c26
    try clear c26b0
    try clear c27
    try clear c27b0
    try clear c27b1
    try clear c28
    try clear c28b0
    try clear c28b1
    try clear hx230_0
    try clear hx231_0
    try clear hx232_0
    try clear p2
    try clear p230
    try clear p231
    try clear p232
    try clear q230
    try clear q231
    try clear q232
    obtain ⟨x6_2, x11_2, x40_2, rfl, rfl, rfl, HA, HK2, HO_5, HO_21, HO_38, HR230_0, HB⟩ := hrel
    cases gk with
    | zero => exact absurd HA.out (by simp [honeycombref07_turned.l1])
    | succ k2 =>
     have H := HA.out
     clear HA
     simp only [honeycombref07_turned.l1] at H
     by_cases c30 : x40_2 < (y227.length : Int)
     rotate_left
     ·
      rw [if_neg c30] at H
      have c30b0 : decide (x40_2 < (y227.length : Int)) = false := decide_eq_false c30
      clear c30
      have H' := Aside0.mk H
      clear H
      go_wp2
      repeat (go_quiet (fail); try go_wp2)
      go_roundg k2
      case measure => have := HK1.out; have := HK2.out; omega
      case rel => exact ⟨(wrap64 (Int.tdiv x1_1 2)), (x6_2), (wrap64 (x23_1 + 1)), rs_, rs_, rs_, H', ⟨by have := HK1.out; have := HK2.out; omega⟩, ⟨kn_ HO_5.out⟩, ⟨kn_ HO_21.out⟩, ⟨by repeat (first | (with_reducible first | exact HB.out | apply ba_ | apply bn_ | apply bd_) | exact HB.out)⟩⟩
     rw [if_pos c30] at H
     have c30b0 : decide (x40_2 < (y227.length : Int)) = true := decide_eq_true c30
     clear c30
     by_cases c31 : 0 ≤ x40_2
     rotate_left
     ·
      rw [if_neg c31] at H
      exact absurd H (by simp)
     rw [if_pos c31] at H
     have c31b0 : decide (0 ≤ x40_2) = true := decide_eq_true c31
     clear c31
     by_cases c32 : x40_2 < (y227.length : Int)
     rotate_left
     ·
      rw [if_neg c32] at H
      exact absurd H (by simp)
     rw [if_pos c32] at H
     have c32b0 : decide (x40_2 < (y227.length : Int)) = true := decide_eq_true c32
     clear c32
     have HC33 := Aside0.mk H
     clear H
     have p235 : 0 ≤ (x40_2 : Int) := of_decide_eq_true as_
     have q235 : x40_2 < (y227.length : Int) := of_decide_eq_true as_
     obtain ⟨ad235, A235_0, c235_0, e235, hx235_0, hl235_0, hi235_0⟩ := at_L10 (Kd.N_reads' HO_38.out).2.2 x40_2 p235 q235
     obtain rfl : ad230 = ad235 := (by injection e235)
     obtain ⟨ce235, hce235, hMe235, hcc235⟩ := Kd.N_get HO_38.out [] x40_2 p235 (by first | exact q235 | exact of_decide_eq_true as_ | (have e_ := (Kd.N_reads' HO_38.out).1; omega))
     obtain ⟨ua235_0, uc235_0, rfl, ul235_0, ge235_0⟩ := Kd.FK_slice_open hMe235
     have hv235_0 := hcc235 0 _ rfl
     rw [Nat.add_zero, show ((Kd.slice 2 (Kd.int .i64))).sz = 1 from rfl, Nat.mul_one] at hv235_0
     replace hv235_0 := Option.some.inj (hv235_0.symm.trans hx235_0)
     injection hv235_0 with hva_ hvn_ hvc_
     rw [hva_] at ge235_0
     rw [hvc_] at ul235_0
     have HL235_0 := Aside0.mk (show Kd.V (Kd.int .i64) 2 _ w.heap.size _ _ (rd_L10 y227 x40_2) from Kd.V_mk ul235_0 ge235_0)
     clear hva_ hvn_ hvc_ ge235_0 ul235_0
     clear hcc235 hce235
     have HR235_0 := Aside0.mk hi235_0
     have HC235_0 := Aside0.mk hl235_0
     clear hi235_0 hl235_0
     replace p235 := eq_true p235
     replace q235 := eq_true q235
     go_upto_region 11 with (fail)
     repeat (go_quiet (fail); go_upto_region 11 with (fail))
     go_cut [60] (fun v60 wc => ∃ (kq : Nat) (x60_32 : Bool), v60 = .bool x60_32 ∧ Aside0 (honeycombref07_turned.j2 kq a0 x1_1 y227 x6_2 t233 t234 x11_2 y227 (y227.length : Int) x23_1 y227 (y227.length : Int) x40_2 x60_32 = some r) ∧ Aside0 (kq ≤ k2) ∧ Aside0 (Kd.N (Kd.slice 2 (Kd.int .i64)) 111 wc w.heap.size (fun _ => True) (.slice (some ad230) y227.length co23) y227) ∧ Aside0 (Kd.N (Kd.slice 2 (Kd.int .i64)) 111 wc w.heap.size (fun _ => True) (.slice (some ad230) y227.length co23) y227) ∧ Aside0 (Kd.N (Kd.slice 2 (Kd.int .i64)) 111 wc w.heap.size (fun _ => True) (.slice (some ad230) y227.length co23) y227) ∧ Aside0 (Kd.C (Kd.int .i64) wc (some ad231) (rd_L10 y227 x23_1).length (rd_L10 y227 x23_1)) ∧ Aside0 (Kd.C (Kd.int .i64) wc A235_0 (rd_L10 y227 x40_2).length (rd_L10 y227 x40_2)) ∧ Aside0 (Below w.heap.size w wc))
     case first =>
      have H := HC33.out
      clear HC33
      by_cases c34 : 0 < ((rd_L10 y227 x40_2).length : Int)
      rotate_left
      ·
       rw [if_neg c34] at H
       exact absurd H (by simp)
      rw [if_pos c34] at H
      have c34b0 : decide (0 < ((rd_L10 y227 x40_2).length : Int)) = true := decide_eq_true c34
      have c34b1 : decide (0 < (rd_L10 y227 x40_2).length) = true := decide_eq_true (by omega)
      clear c34
      (first | rw [c34b0] | (simp only [i64_w, i32_w]; rw [c34b0]) | skip)
      by_cases c35 : (rd (rd_L10 y227 x40_2) 0) = t233
      rotate_left
      ·
       rw [if_neg c35] at H
       have c35b0 : ((rd (rd_L10 y227 x40_2) 0) == t233) = false := beq_eq_false_iff_ne.mpr c35
       have c35b1 : ((rd (rd_L10 y227 x40_2) 0) != t233) = true := bne_iff_ne.mpr c35
       have H' := Aside0.mk H
       clear H
       have p236 : 0 ≤ (0 : Int) := (by omega)
       have q236 : 0 < ((rd_L10 y227 x40_2).length : Int) := of_decide_eq_true as_
       obtain ⟨ad236, e236, hx236_0⟩ := Kd.at_int (by repeat (first | (with_reducible exact HR235_0.out) | (with_reducible refine Kd.C_alloc ?_ _) | (with_reducible refine Kd.C_drewN ?_ _) | (with_reducible refine Kd.C_drew ?_) | exact HR235_0.out)) 0 p236 q236
       cases e236
       have qi236 : (0 < (rd_L10 y227 x40_2).length) = True := eq_true (by omega)
       (try rw [show ((0 : Int)).toNat = 0 from rfl] at hx236_0)
       (try rw [Addr.add_zero'] at hx236_0)
       replace p236 := eq_true p236
       replace q236 := eq_true q236
       go_wp2
       repeat (go_quiet (fail); try go_wp2)
       go_meet
       case rel => exact ⟨_, (false), rs_, H', ⟨by have := HK1.out; have := HK2.out; first | omega | exact Nat.le_refl _⟩, ⟨kn_ HO_5.out⟩, ⟨kn_ HO_21.out⟩, ⟨kn_ HO_38.out⟩, ⟨by repeat (first | (with_reducible exact HR230_0.out) | (with_reducible refine Kd.C_alloc ?_ _) | (with_reducible refine Kd.C_drewN ?_ _) | (with_reducible refine Kd.C_drew ?_) | exact HR230_0.out)⟩, ⟨by repeat (first | (with_reducible exact HR235_0.out) | (with_reducible refine Kd.C_alloc ?_ _) | (with_reducible refine Kd.C_drewN ?_ _) | (with_reducible refine Kd.C_drew ?_) | exact HR235_0.out)⟩, ⟨by repeat (first | (with_reducible first | exact HB.out | apply ba_ | apply bn_ | apply bd_) | exact HB.out)⟩⟩
      rw [if_pos c35] at H
      have c35b0 : ((rd (rd_L10 y227 x40_2) 0) == t233) = true := beq_iff_eq.mpr c35
      have c35b1 : ((rd (rd_L10 y227 x40_2) 0) != t233) = false := bne_eq_false_iff_eq.mpr c35
      clear c35
      by_cases c36 : 1 < ((rd_L10 y227 x40_2).length : Int)
      rotate_left
      ·
       rw [if_neg c36] at H
       exact absurd H (by simp)
      rw [if_pos c36] at H
      have c36b0 : decide (1 < ((rd_L10 y227 x40_2).length : Int)) = true := decide_eq_true c36
      have c36b1 : decide (1 < (rd_L10 y227 x40_2).length) = true := decide_eq_true (by omega)
      clear c36
      by_cases c37 : (rd (rd_L10 y227 x40_2) 1) = t234
      rotate_left
      ·
       rw [if_neg c37] at H
       have c37b0 : ((rd (rd_L10 y227 x40_2) 1) == t234) = false := beq_eq_false_iff_ne.mpr c37
       have c37b1 : ((rd (rd_L10 y227 x40_2) 1) != t234) = true := bne_iff_ne.mpr c37
       have H' := Aside0.mk H
       clear H
       have p236 : 0 ≤ (0 : Int) := (by omega)
       have q236 : 0 < ((rd_L10 y227 x40_2).length : Int) := of_decide_eq_true as_
       obtain ⟨ad236, e236, hx236_0⟩ := Kd.at_int (by repeat (first | (with_reducible exact HR235_0.out) | (with_reducible refine Kd.C_alloc ?_ _) | (with_reducible refine Kd.C_drewN ?_ _) | (with_reducible refine Kd.C_drew ?_) | exact HR235_0.out)) 0 p236 q236
       cases e236
       have qi236 : (0 < (rd_L10 y227 x40_2).length) = True := eq_true (by omega)
       (try rw [show ((0 : Int)).toNat = 0 from rfl] at hx236_0)
       (try rw [Addr.add_zero'] at hx236_0)
       replace p236 := eq_true p236
       replace q236 := eq_true q236
       have p237 : 0 ≤ (1 : Int) := (by omega)
       have q237 : 1 < ((rd_L10 y227 x40_2).length : Int) := of_decide_eq_true as_
       obtain ⟨ad237, e237, hx237_0⟩ := Kd.at_int (by repeat (first | (with_reducible exact HR235_0.out) | (with_reducible refine Kd.C_alloc ?_ _) | (with_reducible refine Kd.C_drewN ?_ _) | (with_reducible refine Kd.C_drew ?_) | exact HR235_0.out)) 1 p237 q237
       obtain rfl : ad236 = ad237 := (by injection e237)
       (try simp only [show (1 : Int).toNat = 1 from rfl, Nat.reduceMul, Nat.reduceEqDiff, Go.Addr.add, ↓reduceIte] at hx237_0)
       have qi237 : (1 < (rd_L10 y227 x40_2).length) = True := eq_true (by omega)
       (try rw [show ((1 : Int)).toNat = 1 from rfl] at hx237_0)
       replace p237 := eq_true p237
       replace q237 := eq_true q237
       go_wp2
       repeat (go_quiet (fail); try go_wp2)
       go_meet
       case rel => exact ⟨_, (false), rs_, H', ⟨by have := HK1.out; have := HK2.out; first | omega | exact Nat.le_refl _⟩, ⟨kn_ HO_5.out⟩, ⟨kn_ HO_21.out⟩, ⟨kn_ HO_38.out⟩, ⟨by repeat (first | (with_reducible exact HR230_0.out) | (with_reducible refine Kd.C_alloc ?_ _) | (with_reducible refine Kd.C_drewN ?_ _) | (with_reducible refine Kd.C_drew ?_) | exact HR230_0.out)⟩, ⟨by repeat (first | (with_reducible exact HR235_0.out) | (with_reducible refine Kd.C_alloc ?_ _) | (with_reducible refine Kd.C_drewN ?_ _) | (with_reducible refine Kd.C_drew ?_) | exact HR235_0.out)⟩, ⟨by repeat (first | (with_reducible first | exact HB.out | apply ba_ | apply bn_ | apply bd_) | exact HB.out)⟩⟩
      rw [if_pos c37] at H
      have c37b0 : ((rd (rd_L10 y227 x40_2) 1) == t234) = true := beq_iff_eq.mpr c37
      have c37b1 : ((rd (rd_L10 y227 x40_2) 1) != t234) = false := bne_eq_false_iff_eq.mpr c37
      clear c37
      have H' := Aside0.mk H
      clear H
      have p236 : 0 ≤ (0 : Int) := (by omega)
      have q236 : 0 < ((rd_L10 y227 x40_2).length : Int) := of_decide_eq_true as_
      obtain ⟨ad236, e236, hx236_0⟩ := Kd.at_int (by repeat (first | (with_reducible exact HR235_0.out) | (with_reducible refine Kd.C_alloc ?_ _) | (with_reducible refine Kd.C_drewN ?_ _) | (with_reducible refine Kd.C_drew ?_) | exact HR235_0.out)) 0 p236 q236
      cases e236
      have qi236 : (0 < (rd_L10 y227 x40_2).length) = True := eq_true (by omega)
      (try rw [show ((0 : Int)).toNat = 0 from rfl] at hx236_0)
      (try rw [Addr.add_zero'] at hx236_0)
      replace p236 := eq_true p236
      replace q236 := eq_true q236
      have p237 : 0 ≤ (1 : Int) := (by omega)
      have q237 : 1 < ((rd_L10 y227 x40_2).length : Int) := of_decide_eq_true as_
      obtain ⟨ad237, e237, hx237_0⟩ := Kd.at_int (by repeat (first | (with_reducible exact HR235_0.out) | (with_reducible refine Kd.C_alloc ?_ _) | (with_reducible refine Kd.C_drewN ?_ _) | (with_reducible refine Kd.C_drew ?_) | exact HR235_0.out)) 1 p237 q237
      obtain rfl : ad236 = ad237 := (by injection e237)
      (try simp only [show (1 : Int).toNat = 1 from rfl, Nat.reduceMul, Nat.reduceEqDiff, Go.Addr.add, ↓reduceIte] at hx237_0)
      have qi237 : (1 < (rd_L10 y227 x40_2).length) = True := eq_true (by omega)
      (try rw [show ((1 : Int)).toNat = 1 from rfl] at hx237_0)
      replace p237 := eq_true p237
      replace q237 := eq_true q237
      go_wp2
      repeat (go_quiet (fail); try go_wp2)
      go_meet
      case rel => exact ⟨_, (((Int.tmod x1_1 2) == 1)), rs_, H', ⟨by have := HK1.out; have := HK2.out; first | omega | exact Nat.le_refl _⟩, ⟨kn_ HO_5.out⟩, ⟨kn_ HO_21.out⟩, ⟨kn_ HO_38.out⟩, ⟨by repeat (first | (with_reducible exact HR230_0.out) | (with_reducible refine Kd.C_alloc ?_ _) | (with_reducible refine Kd.C_drewN ?_ _) | (with_reducible refine Kd.C_drew ?_) | exact HR230_0.out)⟩, ⟨by repeat (first | (with_reducible exact HR235_0.out) | (with_reducible refine Kd.C_alloc ?_ _) | (with_reducible refine Kd.C_drewN ?_ _) | (with_reducible refine Kd.C_drew ?_) | exact HR235_0.out)⟩, ⟨by repeat (first | (with_reducible first | exact HB.out | apply ba_ | apply bn_ | apply bd_) | exact HB.out)⟩⟩
     case rest =>
      clear HC33
      try clear c2
      try clear p2
      try clear q2
      try clear hx2
      try clear qi2
      try clear c3
      try clear c5
      try clear c23
      try clear p23
      try clear q23
      try clear hx23
      try clear qi23
      try clear c24
      try clear c24b0
      try clear c25
      try clear c25b0
      try clear c26
      try clear c26b0
      try clear c27
      try clear c27b0
      try clear c27b1
      try clear c28
      try clear c28b0
      try clear c28b1
      try clear c30
      try clear c30b0
      try clear c31
      try clear c31b0
      try clear c32
      try clear c32b0
      try clear c34
      try clear c34b0
      try clear c34b1
      try clear c35
      try clear c35b0
      try clear c35b1
      try clear c36
      try clear c36b0
      try clear c36b1
      try clear c37
      try clear c37b0
      try clear c37b1
      try clear hx230_0
      try clear hx231_0
      try clear hx232_0
      try clear hx235_0
      try clear hx236_0
      try clear hx237_0
      try clear p2
      try clear p23
      try clear p230
      try clear p231
      try clear p232
      try clear p235
      try clear p236
      try clear p237
      try clear q2
      try clear q23
      try clear q230
      try clear q231
      try clear q232
      try clear q235
      try clear q236
      try clear q237
      obtain ⟨kq, x60_32, rfl, HA, HJ32, HO_5, HO_21, HO_38, HR230_0, HR235_0, HB⟩ := hcut
      cases kq with
      | zero => exact absurd HA.out (by simp [honeycombref07_turned.j2])
      | succ kj32 =>
       have H := HA.out
       clear HA
       simp only [honeycombref07_turned.j2] at H
       by_cases c38 : x60_32 = true
       ·
        subst c38
        have H1 : (honeycombref07_turned.l1 kj32 a0 x1_1 y227 (wrap64 (x6_2 + x11_2)) t233 t234 (wrap64 (2 * x11_2)) y227 (y227.length : Int) x23_1 y227 (y227.length : Int) (wrap64 (x40_2 + 1))) = some r := by rw [if_pos rfl] at H; exact H
        clear H
        have H := H1
        clear H1
        have H' := Aside0.mk H
        clear H
        go_wp2
        repeat (go_quiet (fail); try go_wp2)
        go_roundg kj32
        case measure => have := HK1.out; have := HK2.out; have := HJ32.out; omega
        case rel => exact ⟨(wrap64 (x6_2 + x11_2)), (wrap64 (2 * x11_2)), (wrap64 (x40_2 + 1)), rs_, rs_, rs_, H', ⟨by have := HK1.out; have := HK2.out; have := HJ32.out; omega⟩, ⟨kn_ HO_5.out⟩, ⟨kn_ HO_21.out⟩, ⟨kn_ HO_38.out⟩, ⟨by repeat (first | (with_reducible exact HR230_0.out) | (with_reducible refine Kd.C_alloc ?_ _) | (with_reducible refine Kd.C_drewN ?_ _) | (with_reducible refine Kd.C_drew ?_) | exact HR230_0.out)⟩, ⟨by repeat (first | (with_reducible first | exact HB.out | apply ba_ | apply bn_ | apply bd_) | exact HB.out)⟩⟩
       replace c38 := Bool.eq_false_iff.mpr c38
       subst c38
       have H1 : (honeycombref07_turned.l1 kj32 a0 x1_1 y227 x6_2 t233 t234 (wrap64 (2 * x11_2)) y227 (y227.length : Int) x23_1 y227 (y227.length : Int) (wrap64 (x40_2 + 1))) = some r := by rw [if_neg (show ¬ (false = true) by decide)] at H; exact H
       clear H
       have H := H1
       clear H1
       have H' := Aside0.mk H
       clear H
       go_wp2
       repeat (go_quiet (fail); try go_wp2)
       go_roundg kj32
       case measure => have := HK1.out; have := HK2.out; have := HJ32.out; omega
       case rel => exact ⟨(x6_2), (wrap64 (2 * x11_2)), (wrap64 (x40_2 + 1)), rs_, rs_, rs_, H', ⟨by have := HK1.out; have := HK2.out; have := HJ32.out; omega⟩, ⟨kn_ HO_5.out⟩, ⟨kn_ HO_21.out⟩, ⟨kn_ HO_38.out⟩, ⟨by repeat (first | (with_reducible exact HR230_0.out) | (with_reducible refine Kd.C_alloc ?_ _) | (with_reducible refine Kd.C_drewN ?_ _) | (with_reducible refine Kd.C_drew ?_) | exact HR230_0.out)⟩, ⟨by repeat (first | (with_reducible first | exact HB.out | apply ba_ | apply bn_ | apply bd_) | exact HB.out)⟩⟩
end Go.Proofs.YtaeenefdbahfoaaDoor.H
