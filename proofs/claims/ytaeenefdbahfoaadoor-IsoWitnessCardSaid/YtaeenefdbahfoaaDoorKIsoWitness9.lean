/- Parts of the proof of IsoWitness, merged out of our texts by wip/tools/pack.py. -/
import Derived.Test.YtaeenefdbahfoaaDoorKIsoWitness1
import Derived.Test.YtaeenefdbahfoaaDoorKIsoWitness5
import Derived.BigRegion
import Derived.Test.YtaeenefdbahfoaaDoorKIsoWitness7
import Derived.Test.YtaeenefdbahfoaaDoorKIsoWitness8
namespace Go.Proofs.YtaeenefdbahfoaaDoor
set_option linter.unusedSimpArgs false
set_option linter.unusedVariables false
set_option maxRecDepth 100000
set_option maxHeartbeats 16000000
open Go.RowKit Go.Proofs.YtaeenefdbahfoaaDoorW.PrintWords Go.Proofs.YtaeenefdbahfoaaDoorW.PrintLast Go.Proofs.YtaeenefdbahfoaaDoorW.PrintMore
namespace H
attribute [local go_sem] max2_int min2_int max_two min_two max_three min_three max_four min_four
mutual
def honeycombref01_On.j0 : Nat → Int → Int → Int → Option (Int × Int)
 | 0, _, _, _ => none
 | k + 1, x0, x1, x2 => honeycombref01_On.l0 k x0 x1 x2 0
def honeycombref01_On.l0 : Nat → Int → Int → Int → Int → Option (Int × Int)
 | 0, _, _, _, _ => none
 | k + 1, x0, x1, x2, x8 => if x8 < (Int.tmod x0 6) then (honeycombref01_On.l0 k x0 (wrap64 (-x2)) (wrap64 (x1 + x2)) (wrap64 (x8 + 1))) else (some (x1, x2))
end
def honeycombref01_On.f (k : Nat) (a0 : Int) (a1 : Int) (a2 : Int) : Option (Int × Int) := if a0 > 5 then (honeycombref01_On.j0 k a0 a2 a1) else (honeycombref01_On.j0 k a0 a1 a2)
theorem honeycombref01_On.mono_l : ∀ k, (∀ y0 y1 y2, LeO (honeycombref01_On.j0 k y0 y1 y2) (honeycombref01_On.j0 (k + 1) y0 y1 y2)) ∧ (∀ y0 y1 y2 y3, LeO (honeycombref01_On.l0 k y0 y1 y2 y3) (honeycombref01_On.l0 (k + 1) y0 y1 y2 y3))
 | 0 => ⟨fun _ _ _ r h => by simp [honeycombref01_On.j0] at h, fun _ _ _ _ r h => by simp [honeycombref01_On.l0] at h⟩
 | k + 1 => by
  obtain ⟨ih0, ih1⟩ := honeycombref01_On.mono_l k
  refine ⟨?_, ?_⟩
  ·
   intro y0 y1 y2
   unfold honeycombref01_On.j0
   repeat' first
   | (with_reducible exact ih0 _ _ _)
   | (with_reducible exact ih1 _ _ _ _)
   | (with_reducible exact LeO.refl _)
   | (with_reducible exact LeO.none _)
   | (with_reducible refine LeO.ite ?_ ?_)
   | (with_reducible refine LeO.bind ?_ (fun _ => ?_))
   | exact ih0 _ _ _
   | exact ih1 _ _ _ _
   | exact LeO.none _
   | refine LeO.ite ?_ ?_
   | refine LeO.bind ?_ (fun _ => ?_)
  ·
   intro y0 y1 y2 y3
   unfold honeycombref01_On.l0
   repeat' first
   | (with_reducible exact ih0 _ _ _)
   | (with_reducible exact ih1 _ _ _ _)
   | (with_reducible exact LeO.refl _)
   | (with_reducible exact LeO.none _)
   | (with_reducible refine LeO.ite ?_ ?_)
   | (with_reducible refine LeO.bind ?_ (fun _ => ?_))
   | exact ih0 _ _ _
   | exact ih1 _ _ _ _
   | exact LeO.none _
   | refine LeO.ite ?_ ?_
   | refine LeO.bind ?_ (fun _ => ?_)
theorem honeycombref01_On.mono : ∀ a0 a1 a2 k, LeO (honeycombref01_On.f k a0 a1 a2) (honeycombref01_On.f (k + 1) a0 a1 a2) := by
 intro a0 a1 a2 k
 obtain ⟨ih0, ih1⟩ := honeycombref01_On.mono_l k
 unfold honeycombref01_On.f
 repeat' first
   | (with_reducible exact ih0 _ _ _)
   | (with_reducible exact ih1 _ _ _ _)
   | (with_reducible exact LeO.refl _)
   | (with_reducible exact LeO.none _)
   | (with_reducible refine LeO.ite ?_ ?_)
   | (with_reducible refine LeO.bind ?_ (fun _ => ?_))
   | exact ih0 _ _ _
   | exact ih1 _ _ _ _
   | exact LeO.none _
   | refine LeO.ite ?_ ?_
   | refine LeO.bind ?_ (fun _ => ?_)
theorem honeycombref01_On.calls (k : Nat) (a0 : Int) (a1 : Int) (a2 : Int) (r1 : Int) (r2 : Int) (w : World) (h : honeycombref01_On.f k a0 a1 a2 = some (r1, r2)) :
  Calls Tryd.prog 85 #[.int .i64 a0, .int .i64 a1, .int .i64 a2] w fun e w' => e = .returned (.tuple #[.int .i64 r1, .int .i64 r2]) ∧ Drawn0 w w' := by
 have H : (if a0 > 5 then (honeycombref01_On.j0 k a0 a2 a1) else (honeycombref01_On.j0 k a0 a1 a2)) = some (r1, r2) := h
 clear h
 have HC4 := Aside0.mk H
 clear H
 go_enter Tryd.func85, Tryd.ntmps85
 go_upto_if 10 with (fail)
 go_cut [1, 2] (fun v1 v2 wc => ∃ (kq : Nat) (x1_3 : Int) (x2_3 : Int), v1 = .int .i64 x1_3 ∧ v2 = .int .i64 x2_3 ∧ Aside0 (honeycombref01_On.j0 kq a0 x1_3 x2_3 = some (r1, r2)) ∧ Aside0 (kq ≤ k) ∧ Drawn0 w wc)
 case first =>
  have H := HC4.out
  clear HC4
  by_cases c5 : a0 > 5
  ·
   rw [if_pos c5] at H
   have c5b0 : decide (5 < a0) = true := decide_eq_true c5
   clear c5
   (first | rw [c5b0] | (simp only [i64_w, i32_w]; rw [c5b0]) | skip)
   have H' := Aside0.mk H
   clear H
   go_wp2
   go_meet
   case rel => exact ⟨_, (a2), (a1), rs_, rs_, H', ⟨by first | omega | exact Nat.le_refl _⟩, by repeat (first | exact Drawn0.refl _ | apply Drawn0.step)⟩
  rw [if_neg c5] at H
  have c5b0 : decide (5 < a0) = false := decide_eq_false c5
  clear c5
  (first | rw [c5b0] | (simp only [i64_w, i32_w]; rw [c5b0]) | skip)
  have H' := Aside0.mk H
  clear H
  go_wp2
  go_meet
  case rel => exact ⟨_, (a1), (a2), rs_, rs_, H', ⟨by first | omega | exact Nat.le_refl _⟩, by repeat (first | exact Drawn0.refl _ | apply Drawn0.step)⟩
 case rest =>
  clear HC4
  try clear p2
  try clear c5
  try clear c5b0
  obtain ⟨kq, x1_3, x2_3, rfl, rfl, HA, HJ3, ⟨mc3, rfl⟩⟩ := hcut
  cases kq with
  | zero => exact absurd HA.out (by simp [honeycombref01_On.j0])
  | succ kj3 =>
   have H := HA.out
   clear HA
   simp only [honeycombref01_On.j0] at H
   have H' := Aside0.mk H
   clear H
   go_wp2
   go_loopg [1, 2, 8] kj3 (fun kq v1 v2 v8 w' => ∃ (x1_2 : Int) (x2_2 : Int) (x8_2 : Int), v1 = .int .i64 x1_2 ∧ v2 = .int .i64 x2_2 ∧ v8 = .int .i64 x8_2 ∧ Aside0 (honeycombref01_On.l0 kq a0 x1_2 x2_2 x8_2 = some (r1, r2)) ∧ Aside0 (kq ≤ kj3) ∧ Drawn0 w w')
   case atStart => exact ⟨(x1_3), (x2_3), (0), rs_, rs_, rs_, H', ⟨Nat.le_refl _⟩, by repeat (first | exact Drawn0.refl _ | apply Drawn0.step)⟩
   case round =>
    clear H'
    try clear p2
    try clear c3
    try clear c5
    try clear c5b0
    try clear p2
    obtain ⟨x1_2, x2_2, x8_2, rfl, rfl, rfl, HA, HK2, ⟨m2, rfl⟩⟩ := hrel
    cases gk with
    | zero => exact absurd HA.out (by simp [honeycombref01_On.l0])
    | succ k2 =>
     have H := HA.out
     clear HA
     simp only [honeycombref01_On.l0] at H
     by_cases c6 : x8_2 < (Int.tmod a0 6)
     rotate_left
     ·
      rw [if_neg c6] at H
      have c6b0 : decide (x8_2 < (Int.tmod a0 6)) = false := decide_eq_false c6
      clear c6
      simp only [Option.some.injEq, Prod.mk.injEq] at H
      obtain ⟨rfl, rfl⟩ := H
      go_wp2
      go_ret2
      exact ⟨by first | rfl | (simp; done) | (simp [*]; done), by repeat (first | exact Drawn0.refl _ | apply Drawn0.step)⟩
     rw [if_pos c6] at H
     have c6b0 : decide (x8_2 < (Int.tmod a0 6)) = true := decide_eq_true c6
     clear c6
     have H' := Aside0.mk H
     clear H
     go_wp2
     go_roundg k2
     case measure => have := HJ3.out; have := HK2.out; omega
     case rel => exact ⟨(wrap64 (-x2_2)), (wrap64 (x1_2 + x2_2)), (wrap64 (x8_2 + 1)), rs_, rs_, rs_, H', ⟨by have := HJ3.out; have := HK2.out; omega⟩, by repeat (first | exact Drawn0.refl _ | apply Drawn0.step)⟩
mutual
def honeycombref07_turned.l0 : Nat → Int → Int → List (List Int) → Int → List (List Int) → Int → Int → Option (Int)
 | 0, _, _, _, _, _, _, _ => none
 | k + 1, x0, x1, x5, x6, x21, x22, x23 => if x23 < x22 then (if 0 ≤ x23 then (if x23 < (x21.length : Int) then (if 0 < ((rd_L10 x21 x23).length : Int) then (if 1 < ((rd_L10 x21 x23).length : Int) then ((honeycombref01_On.f k x0 (rd (rd_L10 x21 x23) 0) (rd (rd_L10 x21 x23) 1)).bind fun bt233 => (honeycombref07_turned.l1 k x0 x1 x5 x6 bt233.1 bt233.2 1 x21 x22 x23 x5 (x5.length : Int) 0)) else (none)) else (none)) else (none)) else (none)) else (some x6)
def honeycombref07_turned.l1 : Nat → Int → Int → List (List Int) → Int → Int → Int → Int → List (List Int) → Int → Int → List (List Int) → Int → Int → Option (Int)
 | 0, _, _, _, _, _, _, _, _, _, _, _, _, _ => none
 | k + 1, x0, x1, x5, x6, x9, x10, x11, x21, x22, x23, x38, x39, x40 => if x40 < x39 then (if 0 ≤ x40 then (if x40 < (x38.length : Int) then (if 0 < ((rd_L10 x38 x40).length : Int) then (if (rd (rd_L10 x38 x40) 0) = x9 then (if 1 < ((rd_L10 x38 x40).length : Int) then (if (rd (rd_L10 x38 x40) 1) = x10 then (honeycombref07_turned.j2 k x0 x1 x5 x6 x9 x10 x11 x21 x22 x23 x38 x39 x40 ((Int.tmod x1 2) == 1)) else (honeycombref07_turned.j2 k x0 x1 x5 x6 x9 x10 x11 x21 x22 x23 x38 x39 x40 false)) else (none)) else (honeycombref07_turned.j2 k x0 x1 x5 x6 x9 x10 x11 x21 x22 x23 x38 x39 x40 false)) else (none)) else (none)) else (none)) else (honeycombref07_turned.l0 k x0 (wrap64 (Int.tdiv x1 2)) x5 x6 x21 x22 (wrap64 (x23 + 1)))
def honeycombref07_turned.j2 : Nat → Int → Int → List (List Int) → Int → Int → Int → Int → List (List Int) → Int → Int → List (List Int) → Int → Int → Bool → Option (Int)
 | 0, _, _, _, _, _, _, _, _, _, _, _, _, _, _ => none
 | k + 1, x0, x1, x5, x6, x9, x10, x11, x21, x22, x23, x38, x39, x40, x60 => if x60 = true then (honeycombref07_turned.l1 k x0 x1 x5 (wrap64 (x6 + x11)) x9 x10 (wrap64 (2 * x11)) x21 x22 x23 x38 x39 (wrap64 (x40 + 1))) else (honeycombref07_turned.l1 k x0 x1 x5 x6 x9 x10 (wrap64 (2 * x11)) x21 x22 x23 x38 x39 (wrap64 (x40 + 1)))
end
def honeycombref07_turned.f (k : Nat) (a0 : Int) (a1 : Int) : Option (Int) := (some (([(([1, 0] : List Int)), (([0, 1] : List Int)), (([(-1), 1] : List Int)), (([(-1), 0] : List Int)), (([0, (-1)] : List Int)), (([1, (-1)] : List Int))] : List (List Int)) : List (List Int))).bind fun y227 => (honeycombref07_turned.l0 k a0 a1 y227 0 y227 (y227.length : Int) 0)
theorem honeycombref07_turned.mono_l : ∀ k, (∀ y0 y1 y2 y3 y4 y5 y6, LeO (honeycombref07_turned.l0 k y0 y1 y2 y3 y4 y5 y6) (honeycombref07_turned.l0 (k + 1) y0 y1 y2 y3 y4 y5 y6)) ∧ (∀ y0 y1 y2 y3 y4 y5 y6 y7 y8 y9 y10 y11 y12, LeO (honeycombref07_turned.l1 k y0 y1 y2 y3 y4 y5 y6 y7 y8 y9 y10 y11 y12) (honeycombref07_turned.l1 (k + 1) y0 y1 y2 y3 y4 y5 y6 y7 y8 y9 y10 y11 y12)) ∧ (∀ y0 y1 y2 y3 y4 y5 y6 y7 y8 y9 y10 y11 y12 y13, LeO (honeycombref07_turned.j2 k y0 y1 y2 y3 y4 y5 y6 y7 y8 y9 y10 y11 y12 y13) (honeycombref07_turned.j2 (k + 1) y0 y1 y2 y3 y4 y5 y6 y7 y8 y9 y10 y11 y12 y13))
 | 0 => ⟨fun _ _ _ _ _ _ _ r h => by simp [honeycombref07_turned.l0] at h, fun _ _ _ _ _ _ _ _ _ _ _ _ _ r h => by simp [honeycombref07_turned.l1] at h, fun _ _ _ _ _ _ _ _ _ _ _ _ _ _ r h => by simp [honeycombref07_turned.j2] at h⟩
 | k + 1 => by
  obtain ⟨ih0, ih1, ih2⟩ := honeycombref07_turned.mono_l k
  refine ⟨?_, ?_, ?_⟩
  ·
   intro y0 y1 y2 y3 y4 y5 y6
   unfold honeycombref07_turned.l0
   repeat' first
   | (with_reducible exact ih0 _ _ _ _ _ _ _)
   | (with_reducible exact ih1 _ _ _ _ _ _ _ _ _ _ _ _ _)
   | (with_reducible exact ih2 _ _ _ _ _ _ _ _ _ _ _ _ _ _)
   | (with_reducible exact honeycombref01_On.mono _ _ _ _)
   | (with_reducible exact LeO.refl _)
   | (with_reducible exact LeO.none _)
   | (with_reducible refine LeO.ite ?_ ?_)
   | (with_reducible refine LeO.bind ?_ (fun _ => ?_))
   | exact ih0 _ _ _ _ _ _ _
   | exact ih1 _ _ _ _ _ _ _ _ _ _ _ _ _
   | exact ih2 _ _ _ _ _ _ _ _ _ _ _ _ _ _
   | exact honeycombref01_On.mono _ _ _ _
   | exact LeO.none _
   | refine LeO.ite ?_ ?_
   | refine LeO.bind ?_ (fun _ => ?_)
  ·
   intro y0 y1 y2 y3 y4 y5 y6 y7 y8 y9 y10 y11 y12
   unfold honeycombref07_turned.l1
   repeat' first
   | (with_reducible exact ih0 _ _ _ _ _ _ _)
   | (with_reducible exact ih1 _ _ _ _ _ _ _ _ _ _ _ _ _)
   | (with_reducible exact ih2 _ _ _ _ _ _ _ _ _ _ _ _ _ _)
   | (with_reducible exact honeycombref01_On.mono _ _ _ _)
   | (with_reducible exact LeO.refl _)
   | (with_reducible exact LeO.none _)
   | (with_reducible refine LeO.ite ?_ ?_)
   | (with_reducible refine LeO.bind ?_ (fun _ => ?_))
   | exact ih0 _ _ _ _ _ _ _
   | exact ih1 _ _ _ _ _ _ _ _ _ _ _ _ _
   | exact ih2 _ _ _ _ _ _ _ _ _ _ _ _ _ _
   | exact honeycombref01_On.mono _ _ _ _
   | exact LeO.none _
   | refine LeO.ite ?_ ?_
   | refine LeO.bind ?_ (fun _ => ?_)
  ·
   intro y0 y1 y2 y3 y4 y5 y6 y7 y8 y9 y10 y11 y12 y13
   unfold honeycombref07_turned.j2
   repeat' first
   | (with_reducible exact ih0 _ _ _ _ _ _ _)
   | (with_reducible exact ih1 _ _ _ _ _ _ _ _ _ _ _ _ _)
   | (with_reducible exact ih2 _ _ _ _ _ _ _ _ _ _ _ _ _ _)
   | (with_reducible exact honeycombref01_On.mono _ _ _ _)
   | (with_reducible exact LeO.refl _)
   | (with_reducible exact LeO.none _)
   | (with_reducible refine LeO.ite ?_ ?_)
   | (with_reducible refine LeO.bind ?_ (fun _ => ?_))
   | exact ih0 _ _ _ _ _ _ _
   | exact ih1 _ _ _ _ _ _ _ _ _ _ _ _ _
   | exact ih2 _ _ _ _ _ _ _ _ _ _ _ _ _ _
   | exact honeycombref01_On.mono _ _ _ _
   | exact LeO.none _
   | refine LeO.ite ?_ ?_
   | refine LeO.bind ?_ (fun _ => ?_)
theorem honeycombref07_turned.mono : ∀ a0 a1 k, LeO (honeycombref07_turned.f k a0 a1) (honeycombref07_turned.f (k + 1) a0 a1) := by
 intro a0 a1 k
 obtain ⟨ih0, ih1, ih2⟩ := honeycombref07_turned.mono_l k
 unfold honeycombref07_turned.f
 repeat' first
   | (with_reducible exact ih0 _ _ _ _ _ _ _)
   | (with_reducible exact ih1 _ _ _ _ _ _ _ _ _ _ _ _ _)
   | (with_reducible exact ih2 _ _ _ _ _ _ _ _ _ _ _ _ _ _)
   | (with_reducible exact honeycombref01_On.mono _ _ _ _)
   | (with_reducible exact LeO.refl _)
   | (with_reducible exact LeO.none _)
   | (with_reducible refine LeO.ite ?_ ?_)
   | (with_reducible refine LeO.bind ?_ (fun _ => ?_))
   | exact ih0 _ _ _ _ _ _ _
   | exact ih1 _ _ _ _ _ _ _ _ _ _ _ _ _
   | exact ih2 _ _ _ _ _ _ _ _ _ _ _ _ _ _
   | exact honeycombref01_On.mono _ _ _ _
   | exact LeO.none _
   | refine LeO.ite ?_ ?_
   | refine LeO.bind ?_ (fun _ => ?_)
theorem honeycombref07_turned.calls (k : Nat) (a0 : Int) (a1 : Int) (r : Int) (w : World) (h : honeycombref07_turned.f k a0 a1 = some r) :
  Calls Tryd.prog 52 #[.int .i64 a0, .int .i64 a1] w fun e w' => e = .returned (.int .i64 r) ∧ Below w.heap.size w w' := by
 have HB := Aside0.mk (Below.refl w.heap.size w)
 have H : ((some (([(([1, 0] : List Int)), (([0, 1] : List Int)), (([(-1), 1] : List Int)), (([(-1), 0] : List Int)), (([0, (-1)] : List Int)), (([1, (-1)] : List Int))] : List (List Int)) : List (List Int))).bind fun y227 => (honeycombref07_turned.l0 k a0 a1 y227 0 y227 (y227.length : Int) 0)) = some r := h
 clear h
 obtain ⟨y209, hy209⟩ : ∃ y_ : List Int, y_ = (([1, 0] : List Int)) := ⟨_, rfl⟩
 replace H : ((some (([y209, (([0, 1] : List Int)), (([(-1), 1] : List Int)), (([(-1), 0] : List Int)), (([0, (-1)] : List Int)), (([1, (-1)] : List Int))] : List (List Int)) : List (List Int))).bind fun y227 => (honeycombref07_turned.l0 k a0 a1 y227 0 y227 (y227.length : Int) 0)) = some r := by first | (rw [hy209]; with_reducible exact H) | (have H2_ := (Option.bind_some _ _).symm.trans H; rw [hy209]; with_reducible exact H2_) | (have H2_ := (Option.bind_some _ _).symm.trans H; with_reducible exact H2_) | with_reducible exact H | (rw [hy209]; exact H) | exact H
 have Ny209 := Aside0.mk hy209
 clear hy209
 obtain ⟨y212, hy212⟩ : ∃ y_ : List Int, y_ = (([0, 1] : List Int)) := ⟨_, rfl⟩
 replace H : ((some (([y209, y212, (([(-1), 1] : List Int)), (([(-1), 0] : List Int)), (([0, (-1)] : List Int)), (([1, (-1)] : List Int))] : List (List Int)) : List (List Int))).bind fun y227 => (honeycombref07_turned.l0 k a0 a1 y227 0 y227 (y227.length : Int) 0)) = some r := by first | (rw [hy212]; with_reducible exact H) | (have H2_ := (Option.bind_some _ _).symm.trans H; rw [hy212]; with_reducible exact H2_) | (have H2_ := (Option.bind_some _ _).symm.trans H; with_reducible exact H2_) | with_reducible exact H | (rw [hy212]; exact H) | exact H
 have Ny212 := Aside0.mk hy212
 clear hy212
 obtain ⟨y215, hy215⟩ : ∃ y_ : List Int, y_ = (([(-1), 1] : List Int)) := ⟨_, rfl⟩
 replace H : ((some (([y209, y212, y215, (([(-1), 0] : List Int)), (([0, (-1)] : List Int)), (([1, (-1)] : List Int))] : List (List Int)) : List (List Int))).bind fun y227 => (honeycombref07_turned.l0 k a0 a1 y227 0 y227 (y227.length : Int) 0)) = some r := by first | (rw [hy215]; with_reducible exact H) | (have H2_ := (Option.bind_some _ _).symm.trans H; rw [hy215]; with_reducible exact H2_) | (have H2_ := (Option.bind_some _ _).symm.trans H; with_reducible exact H2_) | with_reducible exact H | (rw [hy215]; exact H) | exact H
 have Ny215 := Aside0.mk hy215
 clear hy215
 obtain ⟨y218, hy218⟩ : ∃ y_ : List Int, y_ = (([(-1), 0] : List Int)) := ⟨_, rfl⟩
 replace H : ((some (([y209, y212, y215, y218, (([0, (-1)] : List Int)), (([1, (-1)] : List Int))] : List (List Int)) : List (List Int))).bind fun y227 => (honeycombref07_turned.l0 k a0 a1 y227 0 y227 (y227.length : Int) 0)) = some r := by first | (rw [hy218]; with_reducible exact H) | (have H2_ := (Option.bind_some _ _).symm.trans H; rw [hy218]; with_reducible exact H2_) | (have H2_ := (Option.bind_some _ _).symm.trans H; with_reducible exact H2_) | with_reducible exact H | (rw [hy218]; exact H) | exact H
 have Ny218 := Aside0.mk hy218
 clear hy218
 obtain ⟨y221, hy221⟩ : ∃ y_ : List Int, y_ = (([0, (-1)] : List Int)) := ⟨_, rfl⟩
 replace H : ((some (([y209, y212, y215, y218, y221, (([1, (-1)] : List Int))] : List (List Int)) : List (List Int))).bind fun y227 => (honeycombref07_turned.l0 k a0 a1 y227 0 y227 (y227.length : Int) 0)) = some r := by first | (rw [hy221]; with_reducible exact H) | (have H2_ := (Option.bind_some _ _).symm.trans H; rw [hy221]; with_reducible exact H2_) | (have H2_ := (Option.bind_some _ _).symm.trans H; with_reducible exact H2_) | with_reducible exact H | (rw [hy221]; exact H) | exact H
 have Ny221 := Aside0.mk hy221
 clear hy221
 obtain ⟨y224, hy224⟩ : ∃ y_ : List Int, y_ = (([1, (-1)] : List Int)) := ⟨_, rfl⟩
 replace H : ((some (([y209, y212, y215, y218, y221, y224] : List (List Int)) : List (List Int))).bind fun y227 => (honeycombref07_turned.l0 k a0 a1 y227 0 y227 (y227.length : Int) 0)) = some r := by first | (rw [hy224]; with_reducible exact H) | (have H2_ := (Option.bind_some _ _).symm.trans H; rw [hy224]; with_reducible exact H2_) | (have H2_ := (Option.bind_some _ _).symm.trans H; with_reducible exact H2_) | with_reducible exact H | (rw [hy224]; exact H) | exact H
 have Ny224 := Aside0.mk hy224
 clear hy224
 obtain ⟨y227, hy227⟩ : ∃ y_ : List (List Int), y_ = (([y209, y212, y215, y218, y221, y224] : List (List Int))) := ⟨_, rfl⟩
 replace H : (honeycombref07_turned.l0 k a0 a1 y227 0 y227 (y227.length : Int) 0) = some r := by first | (rw [hy227]; with_reducible exact H) | (have H2_ := (Option.bind_some _ _).symm.trans H; rw [hy227]; with_reducible exact H2_) | (have H2_ := (Option.bind_some _ _).symm.trans H; with_reducible exact H2_) | with_reducible exact H | (rw [hy227]; exact H) | exact H
 have Ny227 := Aside0.mk hy227
 clear hy227
 have H' := Aside0.mk H
 clear H
 go_enter Tryd.func52, Tryd.ntmps52
 go_wp2_with (first | ((with_reducible refine gate_dst (N := 14) rfl ?_); refine rl_ (Kd.int .i64) 2 14 ([1, 0] : List Int) [.int .i64 1, .int .i64 0] ?_; intro v210 w3 ho4 hb; (first | rw [← Ny209.out] at ho4 | (simp only [Int.reduceToNat] at ho4; rw [← Ny209.out] at ho4)); have HO211 := Aside0.mk (Kd.R_lower ho4 (below_size hb_)); replace HB := Aside0.mk (below_step hb_ hb); clear hb ho4) | ((with_reducible refine gate_dst (N := 15) rfl ?_); refine rl_ (Kd.int .i64) 2 15 ([0, 1] : List Int) [.int .i64 0, .int .i64 1] ?_; intro v213 w5 ho6 hb; (first | rw [← Ny212.out] at ho6 | (simp only [Int.reduceToNat] at ho6; rw [← Ny212.out] at ho6)); have HO214 := Aside0.mk (Kd.R_lower (Kd.R_new' ho6 (Kd.R_lt (kr_ HO211.out))) (below_size hb_)); replace HO211 := Aside0.mk (Kd.R_elder' (kr_ HO211.out) (Kd.R_base ho6) hb); replace HB := Aside0.mk (below_step hb_ hb); clear hb ho6) | ((with_reducible refine gate_dst (N := 16) rfl ?_); refine rl_ (Kd.int .i64) 2 16 ([(-1), 1] : List Int) [.int .i64 (-1), .int .i64 1] ?_; intro v216 w7 ho8 hb; (first | rw [← Ny215.out] at ho8 | (simp only [Int.reduceToNat] at ho8; rw [← Ny215.out] at ho8)); have HO217 := Aside0.mk (Kd.R_lower (Kd.R_new' (Kd.R_new' ho8 (Kd.R_lt (kr_ HO211.out))) (Kd.R_lt (kr_ HO214.out))) (below_size hb_)); replace HO211 := Aside0.mk (Kd.R_elder' (kr_ HO211.out) (Kd.R_base ho8) hb); replace HO214 := Aside0.mk (Kd.R_elder' (kr_ HO214.out) (Kd.R_base ho8) hb); replace HB := Aside0.mk (below_step hb_ hb); clear hb ho8) | ((with_reducible refine gate_dst (N := 17) rfl ?_); refine rl_ (Kd.int .i64) 2 17 ([(-1), 0] : List Int) [.int .i64 (-1), .int .i64 0] ?_; intro v219 w9 ho10 hb; (first | rw [← Ny218.out] at ho10 | (simp only [Int.reduceToNat] at ho10; rw [← Ny218.out] at ho10)); have HO220 := Aside0.mk (Kd.R_lower (Kd.R_new' (Kd.R_new' (Kd.R_new' ho10 (Kd.R_lt (kr_ HO211.out))) (Kd.R_lt (kr_ HO214.out))) (Kd.R_lt (kr_ HO217.out))) (below_size hb_)); replace HO211 := Aside0.mk (Kd.R_elder' (kr_ HO211.out) (Kd.R_base ho10) hb); replace HO214 := Aside0.mk (Kd.R_elder' (kr_ HO214.out) (Kd.R_base ho10) hb); replace HO217 := Aside0.mk (Kd.R_elder' (kr_ HO217.out) (Kd.R_base ho10) hb); replace HB := Aside0.mk (below_step hb_ hb); clear hb ho10) | ((with_reducible refine gate_dst (N := 18) rfl ?_); refine rl_ (Kd.int .i64) 2 18 ([0, (-1)] : List Int) [.int .i64 0, .int .i64 (-1)] ?_; intro v222 w11 ho12 hb; (first | rw [← Ny221.out] at ho12 | (simp only [Int.reduceToNat] at ho12; rw [← Ny221.out] at ho12)); have HO223 := Aside0.mk (Kd.R_lower (Kd.R_new' (Kd.R_new' (Kd.R_new' (Kd.R_new' ho12 (Kd.R_lt (kr_ HO211.out))) (Kd.R_lt (kr_ HO214.out))) (Kd.R_lt (kr_ HO217.out))) (Kd.R_lt (kr_ HO220.out))) (below_size hb_)); replace HO211 := Aside0.mk (Kd.R_elder' (kr_ HO211.out) (Kd.R_base ho12) hb); replace HO214 := Aside0.mk (Kd.R_elder' (kr_ HO214.out) (Kd.R_base ho12) hb); replace HO217 := Aside0.mk (Kd.R_elder' (kr_ HO217.out) (Kd.R_base ho12) hb); replace HO220 := Aside0.mk (Kd.R_elder' (kr_ HO220.out) (Kd.R_base ho12) hb); replace HB := Aside0.mk (below_step hb_ hb); clear hb ho12) | ((with_reducible refine gate_dst (N := 19) rfl ?_); refine rl_ (Kd.int .i64) 2 19 ([1, (-1)] : List Int) [.int .i64 1, .int .i64 (-1)] ?_; intro v225 w13 ho14 hb; (first | rw [← Ny224.out] at ho14 | (simp only [Int.reduceToNat] at ho14; rw [← Ny224.out] at ho14)); have HO226 := Aside0.mk (Kd.R_lower (Kd.R_new' (Kd.R_new' (Kd.R_new' (Kd.R_new' (Kd.R_new' ho14 (Kd.R_lt (kr_ HO211.out))) (Kd.R_lt (kr_ HO214.out))) (Kd.R_lt (kr_ HO217.out))) (Kd.R_lt (kr_ HO220.out))) (Kd.R_lt (kr_ HO223.out))) (below_size hb_)); replace HO211 := Aside0.mk (Kd.R_elder' (kr_ HO211.out) (Kd.R_base ho14) hb); replace HO214 := Aside0.mk (Kd.R_elder' (kr_ HO214.out) (Kd.R_base ho14) hb); replace HO217 := Aside0.mk (Kd.R_elder' (kr_ HO217.out) (Kd.R_base ho14) hb); replace HO220 := Aside0.mk (Kd.R_elder' (kr_ HO220.out) (Kd.R_base ho14) hb); replace HO223 := Aside0.mk (Kd.R_elder' (kr_ HO223.out) (Kd.R_base ho14) hb); replace HB := Aside0.mk (below_step hb_ hb); clear hb ho14; obtain ⟨Ao15, co15, eo15⟩ := Kd.R_slice HO211.out; subst eo15; obtain ⟨Ao16, co16, eo16⟩ := Kd.R_slice HO214.out; subst eo16; obtain ⟨Ao17, co17, eo17⟩ := Kd.R_slice HO217.out; subst eo17; obtain ⟨Ao18, co18, eo18⟩ := Kd.R_slice HO220.out; subst eo18; obtain ⟨Ao19, co19, eo19⟩ := Kd.R_slice HO223.out; subst eo19; obtain ⟨Ao20, co20, eo20⟩ := Kd.R_slice HO226.out; subst eo20) | ((with_reducible refine gate_dst (N := 20) rfl ?_); refine Kd.N_lit (Kd.slice 2 (Kd.int .i64)) _ 111 ?hg (N' := 20) ?hd (xs := ([y209, y212, y215, y218, y221, y224] : List (List Int))) (inner := [.slice Ao15 y209.length co15, .slice Ao16 y212.length co16, .slice Ao17 y215.length co17, .slice Ao18 y218.length co18, .slice Ao19 y221.length co19, .slice Ao20 y224.length co20]) (ok := (fun _ => True)) (okp := (fun _ => True)) ?hr ?hp (fun _ hk => hk) ((show ∀ k_, w13.heap.size ≤ k_ → (fun _ => True) k_ from fun k_ hk => trivial) _ (Nat.le_refl _)) (Below.refl _ _) (Nat.le_refl _) (by simp) ?_; (case hd => rfl); (case hg => rfl); (case hr => first | (go_simp; done) | (go_simp; rfl)); (case hp => exact (Reps.one (show Kd.FK (Kd.slice 2 (Kd.int .i64)) _ _ y209 [.slice Ao15 y209.length co15] from (Kd.FK_slice_mk (Kd.R_reads' (Kd.R_mono (ok' := (fun _ => True)) (HO211.out) (fun k_ hk => trivial))).2.1 (Kd.R_F (Kd.R_mono (ok' := (fun _ => True)) (HO211.out) (fun k_ hk => trivial))))) (Reps.one (show Kd.FK (Kd.slice 2 (Kd.int .i64)) _ _ y212 [.slice Ao16 y212.length co16] from (Kd.FK_slice_mk (Kd.R_reads' (Kd.R_mono (ok' := (fun _ => True)) (HO214.out) (fun k_ hk => trivial))).2.1 (Kd.R_F (Kd.R_mono (ok' := (fun _ => True)) (HO214.out) (fun k_ hk => trivial))))) (Reps.one (show Kd.FK (Kd.slice 2 (Kd.int .i64)) _ _ y215 [.slice Ao17 y215.length co17] from (Kd.FK_slice_mk (Kd.R_reads' (Kd.R_mono (ok' := (fun _ => True)) (HO217.out) (fun k_ hk => trivial))).2.1 (Kd.R_F (Kd.R_mono (ok' := (fun _ => True)) (HO217.out) (fun k_ hk => trivial))))) (Reps.one (show Kd.FK (Kd.slice 2 (Kd.int .i64)) _ _ y218 [.slice Ao18 y218.length co18] from (Kd.FK_slice_mk (Kd.R_reads' (Kd.R_mono (ok' := (fun _ => True)) (HO220.out) (fun k_ hk => trivial))).2.1 (Kd.R_F (Kd.R_mono (ok' := (fun _ => True)) (HO220.out) (fun k_ hk => trivial))))) (Reps.one (show Kd.FK (Kd.slice 2 (Kd.int .i64)) _ _ y221 [.slice Ao19 y221.length co19] from (Kd.FK_slice_mk (Kd.R_reads' (Kd.R_mono (ok' := (fun _ => True)) (HO223.out) (fun k_ hk => trivial))).2.1 (Kd.R_F (Kd.R_mono (ok' := (fun _ => True)) (HO223.out) (fun k_ hk => trivial))))) (Reps.one (show Kd.FK (Kd.slice 2 (Kd.int .i64)) _ _ y224 [.slice Ao20 y224.length co20] from (Kd.FK_slice_mk (Kd.R_reads' (Kd.R_mono (ok' := (fun _ => True)) (HO226.out) (fun k_ hk => trivial))).2.1 (Kd.R_F (Kd.R_mono (ok' := (fun _ => True)) (HO226.out) (fun k_ hk => trivial))))) (Reps.none _ _)))))))); intro v228 w21 ho22 hb hg_ hnew_; clear hg_ hnew_; (first | rw [← Ny227.out] at ho22 | (simp only [Int.reduceToNat] at ho22; rw [← Ny227.out] at ho22)); have HO229 := Aside0.mk (Kd.N_lower ho22 (below_size hb_)); replace HB := Aside0.mk (below_step hb_ hb); clear HO211; clear HO214; clear HO217; clear HO220; clear HO223; clear HO226; clear hb ho22; obtain ⟨Ao23, co23, eo23⟩ := Kd.N_slice HO229.out; subst eo23))
 repeat (go_quiet (first | ((with_reducible refine gate_dst (N := 14) rfl ?_); refine rl_ (Kd.int .i64) 2 14 ([1, 0] : List Int) [.int .i64 1, .int .i64 0] ?_; intro v210 w3 ho4 hb; (first | rw [← Ny209.out] at ho4 | (simp only [Int.reduceToNat] at ho4; rw [← Ny209.out] at ho4)); have HO211 := Aside0.mk (Kd.R_lower ho4 (below_size hb_)); replace HB := Aside0.mk (below_step hb_ hb); clear hb ho4) | ((with_reducible refine gate_dst (N := 15) rfl ?_); refine rl_ (Kd.int .i64) 2 15 ([0, 1] : List Int) [.int .i64 0, .int .i64 1] ?_; intro v213 w5 ho6 hb; (first | rw [← Ny212.out] at ho6 | (simp only [Int.reduceToNat] at ho6; rw [← Ny212.out] at ho6)); have HO214 := Aside0.mk (Kd.R_lower (Kd.R_new' ho6 (Kd.R_lt (kr_ HO211.out))) (below_size hb_)); replace HO211 := Aside0.mk (Kd.R_elder' (kr_ HO211.out) (Kd.R_base ho6) hb); replace HB := Aside0.mk (below_step hb_ hb); clear hb ho6) | ((with_reducible refine gate_dst (N := 16) rfl ?_); refine rl_ (Kd.int .i64) 2 16 ([(-1), 1] : List Int) [.int .i64 (-1), .int .i64 1] ?_; intro v216 w7 ho8 hb; (first | rw [← Ny215.out] at ho8 | (simp only [Int.reduceToNat] at ho8; rw [← Ny215.out] at ho8)); have HO217 := Aside0.mk (Kd.R_lower (Kd.R_new' (Kd.R_new' ho8 (Kd.R_lt (kr_ HO211.out))) (Kd.R_lt (kr_ HO214.out))) (below_size hb_)); replace HO211 := Aside0.mk (Kd.R_elder' (kr_ HO211.out) (Kd.R_base ho8) hb); replace HO214 := Aside0.mk (Kd.R_elder' (kr_ HO214.out) (Kd.R_base ho8) hb); replace HB := Aside0.mk (below_step hb_ hb); clear hb ho8) | ((with_reducible refine gate_dst (N := 17) rfl ?_); refine rl_ (Kd.int .i64) 2 17 ([(-1), 0] : List Int) [.int .i64 (-1), .int .i64 0] ?_; intro v219 w9 ho10 hb; (first | rw [← Ny218.out] at ho10 | (simp only [Int.reduceToNat] at ho10; rw [← Ny218.out] at ho10)); have HO220 := Aside0.mk (Kd.R_lower (Kd.R_new' (Kd.R_new' (Kd.R_new' ho10 (Kd.R_lt (kr_ HO211.out))) (Kd.R_lt (kr_ HO214.out))) (Kd.R_lt (kr_ HO217.out))) (below_size hb_)); replace HO211 := Aside0.mk (Kd.R_elder' (kr_ HO211.out) (Kd.R_base ho10) hb); replace HO214 := Aside0.mk (Kd.R_elder' (kr_ HO214.out) (Kd.R_base ho10) hb); replace HO217 := Aside0.mk (Kd.R_elder' (kr_ HO217.out) (Kd.R_base ho10) hb); replace HB := Aside0.mk (below_step hb_ hb); clear hb ho10) | ((with_reducible refine gate_dst (N := 18) rfl ?_); refine rl_ (Kd.int .i64) 2 18 ([0, (-1)] : List Int) [.int .i64 0, .int .i64 (-1)] ?_; intro v222 w11 ho12 hb; (first | rw [← Ny221.out] at ho12 | (simp only [Int.reduceToNat] at ho12; rw [← Ny221.out] at ho12)); have HO223 := Aside0.mk (Kd.R_lower (Kd.R_new' (Kd.R_new' (Kd.R_new' (Kd.R_new' ho12 (Kd.R_lt (kr_ HO211.out))) (Kd.R_lt (kr_ HO214.out))) (Kd.R_lt (kr_ HO217.out))) (Kd.R_lt (kr_ HO220.out))) (below_size hb_)); replace HO211 := Aside0.mk (Kd.R_elder' (kr_ HO211.out) (Kd.R_base ho12) hb); replace HO214 := Aside0.mk (Kd.R_elder' (kr_ HO214.out) (Kd.R_base ho12) hb); replace HO217 := Aside0.mk (Kd.R_elder' (kr_ HO217.out) (Kd.R_base ho12) hb); replace HO220 := Aside0.mk (Kd.R_elder' (kr_ HO220.out) (Kd.R_base ho12) hb); replace HB := Aside0.mk (below_step hb_ hb); clear hb ho12) | ((with_reducible refine gate_dst (N := 19) rfl ?_); refine rl_ (Kd.int .i64) 2 19 ([1, (-1)] : List Int) [.int .i64 1, .int .i64 (-1)] ?_; intro v225 w13 ho14 hb; (first | rw [← Ny224.out] at ho14 | (simp only [Int.reduceToNat] at ho14; rw [← Ny224.out] at ho14)); have HO226 := Aside0.mk (Kd.R_lower (Kd.R_new' (Kd.R_new' (Kd.R_new' (Kd.R_new' (Kd.R_new' ho14 (Kd.R_lt (kr_ HO211.out))) (Kd.R_lt (kr_ HO214.out))) (Kd.R_lt (kr_ HO217.out))) (Kd.R_lt (kr_ HO220.out))) (Kd.R_lt (kr_ HO223.out))) (below_size hb_)); replace HO211 := Aside0.mk (Kd.R_elder' (kr_ HO211.out) (Kd.R_base ho14) hb); replace HO214 := Aside0.mk (Kd.R_elder' (kr_ HO214.out) (Kd.R_base ho14) hb); replace HO217 := Aside0.mk (Kd.R_elder' (kr_ HO217.out) (Kd.R_base ho14) hb); replace HO220 := Aside0.mk (Kd.R_elder' (kr_ HO220.out) (Kd.R_base ho14) hb); replace HO223 := Aside0.mk (Kd.R_elder' (kr_ HO223.out) (Kd.R_base ho14) hb); replace HB := Aside0.mk (below_step hb_ hb); clear hb ho14; obtain ⟨Ao15, co15, eo15⟩ := Kd.R_slice HO211.out; subst eo15; obtain ⟨Ao16, co16, eo16⟩ := Kd.R_slice HO214.out; subst eo16; obtain ⟨Ao17, co17, eo17⟩ := Kd.R_slice HO217.out; subst eo17; obtain ⟨Ao18, co18, eo18⟩ := Kd.R_slice HO220.out; subst eo18; obtain ⟨Ao19, co19, eo19⟩ := Kd.R_slice HO223.out; subst eo19; obtain ⟨Ao20, co20, eo20⟩ := Kd.R_slice HO226.out; subst eo20) | ((with_reducible refine gate_dst (N := 20) rfl ?_); refine Kd.N_lit (Kd.slice 2 (Kd.int .i64)) _ 111 ?hg (N' := 20) ?hd (xs := ([y209, y212, y215, y218, y221, y224] : List (List Int))) (inner := [.slice Ao15 y209.length co15, .slice Ao16 y212.length co16, .slice Ao17 y215.length co17, .slice Ao18 y218.length co18, .slice Ao19 y221.length co19, .slice Ao20 y224.length co20]) (ok := (fun _ => True)) (okp := (fun _ => True)) ?hr ?hp (fun _ hk => hk) ((show ∀ k_, w13.heap.size ≤ k_ → (fun _ => True) k_ from fun k_ hk => trivial) _ (Nat.le_refl _)) (Below.refl _ _) (Nat.le_refl _) (by simp) ?_; (case hd => rfl); (case hg => rfl); (case hr => first | (go_simp; done) | (go_simp; rfl)); (case hp => exact (Reps.one (show Kd.FK (Kd.slice 2 (Kd.int .i64)) _ _ y209 [.slice Ao15 y209.length co15] from (Kd.FK_slice_mk (Kd.R_reads' (Kd.R_mono (ok' := (fun _ => True)) (HO211.out) (fun k_ hk => trivial))).2.1 (Kd.R_F (Kd.R_mono (ok' := (fun _ => True)) (HO211.out) (fun k_ hk => trivial))))) (Reps.one (show Kd.FK (Kd.slice 2 (Kd.int .i64)) _ _ y212 [.slice Ao16 y212.length co16] from (Kd.FK_slice_mk (Kd.R_reads' (Kd.R_mono (ok' := (fun _ => True)) (HO214.out) (fun k_ hk => trivial))).2.1 (Kd.R_F (Kd.R_mono (ok' := (fun _ => True)) (HO214.out) (fun k_ hk => trivial))))) (Reps.one (show Kd.FK (Kd.slice 2 (Kd.int .i64)) _ _ y215 [.slice Ao17 y215.length co17] from (Kd.FK_slice_mk (Kd.R_reads' (Kd.R_mono (ok' := (fun _ => True)) (HO217.out) (fun k_ hk => trivial))).2.1 (Kd.R_F (Kd.R_mono (ok' := (fun _ => True)) (HO217.out) (fun k_ hk => trivial))))) (Reps.one (show Kd.FK (Kd.slice 2 (Kd.int .i64)) _ _ y218 [.slice Ao18 y218.length co18] from (Kd.FK_slice_mk (Kd.R_reads' (Kd.R_mono (ok' := (fun _ => True)) (HO220.out) (fun k_ hk => trivial))).2.1 (Kd.R_F (Kd.R_mono (ok' := (fun _ => True)) (HO220.out) (fun k_ hk => trivial))))) (Reps.one (show Kd.FK (Kd.slice 2 (Kd.int .i64)) _ _ y221 [.slice Ao19 y221.length co19] from (Kd.FK_slice_mk (Kd.R_reads' (Kd.R_mono (ok' := (fun _ => True)) (HO223.out) (fun k_ hk => trivial))).2.1 (Kd.R_F (Kd.R_mono (ok' := (fun _ => True)) (HO223.out) (fun k_ hk => trivial))))) (Reps.one (show Kd.FK (Kd.slice 2 (Kd.int .i64)) _ _ y224 [.slice Ao20 y224.length co20] from (Kd.FK_slice_mk (Kd.R_reads' (Kd.R_mono (ok' := (fun _ => True)) (HO226.out) (fun k_ hk => trivial))).2.1 (Kd.R_F (Kd.R_mono (ok' := (fun _ => True)) (HO226.out) (fun k_ hk => trivial))))) (Reps.none _ _)))))))); intro v228 w21 ho22 hb hg_ hnew_; clear hg_ hnew_; (first | rw [← Ny227.out] at ho22 | (simp only [Int.reduceToNat] at ho22; rw [← Ny227.out] at ho22)); have HO229 := Aside0.mk (Kd.N_lower ho22 (below_size hb_)); replace HB := Aside0.mk (below_step hb_ hb); clear HO211; clear HO214; clear HO217; clear HO220; clear HO223; clear HO226; clear hb ho22; obtain ⟨Ao23, co23, eo23⟩ := Kd.N_slice HO229.out; subst eo23)); try go_wp2_with (first | ((with_reducible refine gate_dst (N := 14) rfl ?_); refine rl_ (Kd.int .i64) 2 14 ([1, 0] : List Int) [.int .i64 1, .int .i64 0] ?_; intro v210 w3 ho4 hb; (first | rw [← Ny209.out] at ho4 | (simp only [Int.reduceToNat] at ho4; rw [← Ny209.out] at ho4)); have HO211 := Aside0.mk (Kd.R_lower ho4 (below_size hb_)); replace HB := Aside0.mk (below_step hb_ hb); clear hb ho4) | ((with_reducible refine gate_dst (N := 15) rfl ?_); refine rl_ (Kd.int .i64) 2 15 ([0, 1] : List Int) [.int .i64 0, .int .i64 1] ?_; intro v213 w5 ho6 hb; (first | rw [← Ny212.out] at ho6 | (simp only [Int.reduceToNat] at ho6; rw [← Ny212.out] at ho6)); have HO214 := Aside0.mk (Kd.R_lower (Kd.R_new' ho6 (Kd.R_lt (kr_ HO211.out))) (below_size hb_)); replace HO211 := Aside0.mk (Kd.R_elder' (kr_ HO211.out) (Kd.R_base ho6) hb); replace HB := Aside0.mk (below_step hb_ hb); clear hb ho6) | ((with_reducible refine gate_dst (N := 16) rfl ?_); refine rl_ (Kd.int .i64) 2 16 ([(-1), 1] : List Int) [.int .i64 (-1), .int .i64 1] ?_; intro v216 w7 ho8 hb; (first | rw [← Ny215.out] at ho8 | (simp only [Int.reduceToNat] at ho8; rw [← Ny215.out] at ho8)); have HO217 := Aside0.mk (Kd.R_lower (Kd.R_new' (Kd.R_new' ho8 (Kd.R_lt (kr_ HO211.out))) (Kd.R_lt (kr_ HO214.out))) (below_size hb_)); replace HO211 := Aside0.mk (Kd.R_elder' (kr_ HO211.out) (Kd.R_base ho8) hb); replace HO214 := Aside0.mk (Kd.R_elder' (kr_ HO214.out) (Kd.R_base ho8) hb); replace HB := Aside0.mk (below_step hb_ hb); clear hb ho8) | ((with_reducible refine gate_dst (N := 17) rfl ?_); refine rl_ (Kd.int .i64) 2 17 ([(-1), 0] : List Int) [.int .i64 (-1), .int .i64 0] ?_; intro v219 w9 ho10 hb; (first | rw [← Ny218.out] at ho10 | (simp only [Int.reduceToNat] at ho10; rw [← Ny218.out] at ho10)); have HO220 := Aside0.mk (Kd.R_lower (Kd.R_new' (Kd.R_new' (Kd.R_new' ho10 (Kd.R_lt (kr_ HO211.out))) (Kd.R_lt (kr_ HO214.out))) (Kd.R_lt (kr_ HO217.out))) (below_size hb_)); replace HO211 := Aside0.mk (Kd.R_elder' (kr_ HO211.out) (Kd.R_base ho10) hb); replace HO214 := Aside0.mk (Kd.R_elder' (kr_ HO214.out) (Kd.R_base ho10) hb); replace HO217 := Aside0.mk (Kd.R_elder' (kr_ HO217.out) (Kd.R_base ho10) hb); replace HB := Aside0.mk (below_step hb_ hb); clear hb ho10) | ((with_reducible refine gate_dst (N := 18) rfl ?_); refine rl_ (Kd.int .i64) 2 18 ([0, (-1)] : List Int) [.int .i64 0, .int .i64 (-1)] ?_; intro v222 w11 ho12 hb; (first | rw [← Ny221.out] at ho12 | (simp only [Int.reduceToNat] at ho12; rw [← Ny221.out] at ho12)); have HO223 := Aside0.mk (Kd.R_lower (Kd.R_new' (Kd.R_new' (Kd.R_new' (Kd.R_new' ho12 (Kd.R_lt (kr_ HO211.out))) (Kd.R_lt (kr_ HO214.out))) (Kd.R_lt (kr_ HO217.out))) (Kd.R_lt (kr_ HO220.out))) (below_size hb_)); replace HO211 := Aside0.mk (Kd.R_elder' (kr_ HO211.out) (Kd.R_base ho12) hb); replace HO214 := Aside0.mk (Kd.R_elder' (kr_ HO214.out) (Kd.R_base ho12) hb); replace HO217 := Aside0.mk (Kd.R_elder' (kr_ HO217.out) (Kd.R_base ho12) hb); replace HO220 := Aside0.mk (Kd.R_elder' (kr_ HO220.out) (Kd.R_base ho12) hb); replace HB := Aside0.mk (below_step hb_ hb); clear hb ho12) | ((with_reducible refine gate_dst (N := 19) rfl ?_); refine rl_ (Kd.int .i64) 2 19 ([1, (-1)] : List Int) [.int .i64 1, .int .i64 (-1)] ?_; intro v225 w13 ho14 hb; (first | rw [← Ny224.out] at ho14 | (simp only [Int.reduceToNat] at ho14; rw [← Ny224.out] at ho14)); have HO226 := Aside0.mk (Kd.R_lower (Kd.R_new' (Kd.R_new' (Kd.R_new' (Kd.R_new' (Kd.R_new' ho14 (Kd.R_lt (kr_ HO211.out))) (Kd.R_lt (kr_ HO214.out))) (Kd.R_lt (kr_ HO217.out))) (Kd.R_lt (kr_ HO220.out))) (Kd.R_lt (kr_ HO223.out))) (below_size hb_)); replace HO211 := Aside0.mk (Kd.R_elder' (kr_ HO211.out) (Kd.R_base ho14) hb); replace HO214 := Aside0.mk (Kd.R_elder' (kr_ HO214.out) (Kd.R_base ho14) hb); replace HO217 := Aside0.mk (Kd.R_elder' (kr_ HO217.out) (Kd.R_base ho14) hb); replace HO220 := Aside0.mk (Kd.R_elder' (kr_ HO220.out) (Kd.R_base ho14) hb); replace HO223 := Aside0.mk (Kd.R_elder' (kr_ HO223.out) (Kd.R_base ho14) hb); replace HB := Aside0.mk (below_step hb_ hb); clear hb ho14; obtain ⟨Ao15, co15, eo15⟩ := Kd.R_slice HO211.out; subst eo15; obtain ⟨Ao16, co16, eo16⟩ := Kd.R_slice HO214.out; subst eo16; obtain ⟨Ao17, co17, eo17⟩ := Kd.R_slice HO217.out; subst eo17; obtain ⟨Ao18, co18, eo18⟩ := Kd.R_slice HO220.out; subst eo18; obtain ⟨Ao19, co19, eo19⟩ := Kd.R_slice HO223.out; subst eo19; obtain ⟨Ao20, co20, eo20⟩ := Kd.R_slice HO226.out; subst eo20) | ((with_reducible refine gate_dst (N := 20) rfl ?_); refine Kd.N_lit (Kd.slice 2 (Kd.int .i64)) _ 111 ?hg (N' := 20) ?hd (xs := ([y209, y212, y215, y218, y221, y224] : List (List Int))) (inner := [.slice Ao15 y209.length co15, .slice Ao16 y212.length co16, .slice Ao17 y215.length co17, .slice Ao18 y218.length co18, .slice Ao19 y221.length co19, .slice Ao20 y224.length co20]) (ok := (fun _ => True)) (okp := (fun _ => True)) ?hr ?hp (fun _ hk => hk) ((show ∀ k_, w13.heap.size ≤ k_ → (fun _ => True) k_ from fun k_ hk => trivial) _ (Nat.le_refl _)) (Below.refl _ _) (Nat.le_refl _) (by simp) ?_; (case hd => rfl); (case hg => rfl); (case hr => first | (go_simp; done) | (go_simp; rfl)); (case hp => exact (Reps.one (show Kd.FK (Kd.slice 2 (Kd.int .i64)) _ _ y209 [.slice Ao15 y209.length co15] from (Kd.FK_slice_mk (Kd.R_reads' (Kd.R_mono (ok' := (fun _ => True)) (HO211.out) (fun k_ hk => trivial))).2.1 (Kd.R_F (Kd.R_mono (ok' := (fun _ => True)) (HO211.out) (fun k_ hk => trivial))))) (Reps.one (show Kd.FK (Kd.slice 2 (Kd.int .i64)) _ _ y212 [.slice Ao16 y212.length co16] from (Kd.FK_slice_mk (Kd.R_reads' (Kd.R_mono (ok' := (fun _ => True)) (HO214.out) (fun k_ hk => trivial))).2.1 (Kd.R_F (Kd.R_mono (ok' := (fun _ => True)) (HO214.out) (fun k_ hk => trivial))))) (Reps.one (show Kd.FK (Kd.slice 2 (Kd.int .i64)) _ _ y215 [.slice Ao17 y215.length co17] from (Kd.FK_slice_mk (Kd.R_reads' (Kd.R_mono (ok' := (fun _ => True)) (HO217.out) (fun k_ hk => trivial))).2.1 (Kd.R_F (Kd.R_mono (ok' := (fun _ => True)) (HO217.out) (fun k_ hk => trivial))))) (Reps.one (show Kd.FK (Kd.slice 2 (Kd.int .i64)) _ _ y218 [.slice Ao18 y218.length co18] from (Kd.FK_slice_mk (Kd.R_reads' (Kd.R_mono (ok' := (fun _ => True)) (HO220.out) (fun k_ hk => trivial))).2.1 (Kd.R_F (Kd.R_mono (ok' := (fun _ => True)) (HO220.out) (fun k_ hk => trivial))))) (Reps.one (show Kd.FK (Kd.slice 2 (Kd.int .i64)) _ _ y221 [.slice Ao19 y221.length co19] from (Kd.FK_slice_mk (Kd.R_reads' (Kd.R_mono (ok' := (fun _ => True)) (HO223.out) (fun k_ hk => trivial))).2.1 (Kd.R_F (Kd.R_mono (ok' := (fun _ => True)) (HO223.out) (fun k_ hk => trivial))))) (Reps.one (show Kd.FK (Kd.slice 2 (Kd.int .i64)) _ _ y224 [.slice Ao20 y224.length co20] from (Kd.FK_slice_mk (Kd.R_reads' (Kd.R_mono (ok' := (fun _ => True)) (HO226.out) (fun k_ hk => trivial))).2.1 (Kd.R_F (Kd.R_mono (ok' := (fun _ => True)) (HO226.out) (fun k_ hk => trivial))))) (Reps.none _ _)))))))); intro v228 w21 ho22 hb hg_ hnew_; clear hg_ hnew_; (first | rw [← Ny227.out] at ho22 | (simp only [Int.reduceToNat] at ho22; rw [← Ny227.out] at ho22)); have HO229 := Aside0.mk (Kd.N_lower ho22 (below_size hb_)); replace HB := Aside0.mk (below_step hb_ hb); clear HO211; clear HO214; clear HO217; clear HO220; clear HO223; clear HO226; clear hb ho22; obtain ⟨Ao23, co23, eo23⟩ := Kd.N_slice HO229.out; subst eo23)))
 go_loopg [1, 6, 23] k (fun kq v1 v6 v23 w' => ∃ (x1_1 : Int) (x6_1 : Int) (x23_1 : Int), v1 = .int .i64 x1_1 ∧ v6 = .int .i64 x6_1 ∧ v23 = .int .i64 x23_1 ∧ Aside0 (honeycombref07_turned.l0 kq a0 x1_1 y227 x6_1 y227 (y227.length : Int) x23_1 = some r) ∧ Aside0 (kq ≤ k) ∧ Aside0 (Kd.N (Kd.slice 2 (Kd.int .i64)) 111 w' w.heap.size (fun _ => True) (.slice Ao23 y227.length co23) y227) ∧ Aside0 (Kd.N (Kd.slice 2 (Kd.int .i64)) 111 w' w.heap.size (fun _ => True) (.slice Ao23 y227.length co23) y227) ∧ Aside0 (Below w.heap.size w w'))
 case atStart => exact ⟨(a1), (0), (0), rs_, rs_, rs_, H', ⟨Nat.le_refl _⟩, ⟨kn_ HO229.out⟩, ⟨kn_ HO229.out⟩, ⟨by repeat (first | (with_reducible first | exact HB.out | apply ba_ | apply bn_ | apply bd_) | exact HB.out)⟩⟩
 case round =>
  clear H'
  try clear p2
  try clear c5
  obtain ⟨x1_1, x6_1, x23_1, rfl, rfl, rfl, HA, HK1, HO_5, HO_21, HB⟩ := hrel
  cases gk with
  | zero => exact absurd HA.out (by simp [honeycombref07_turned.l0])
  | succ k1 =>
   have H := HA.out
   clear HA
   simp only [honeycombref07_turned.l0] at H
   by_cases c24 : x23_1 < (y227.length : Int)
   rotate_left
   ·
    rw [if_neg c24] at H
    have c24b0 : decide (x23_1 < (y227.length : Int)) = false := decide_eq_false c24
    clear c24
    obtain rfl := Option.some.inj H
    go_wp2
    repeat (go_quiet (fail); try go_wp2)
    go_ret
    exact ⟨er_, hb_⟩
   rw [if_pos c24] at H
   have c24b0 : decide (x23_1 < (y227.length : Int)) = true := decide_eq_true c24
   clear c24
   by_cases c25 : 0 ≤ x23_1
   rotate_left
   ·
    rw [if_neg c25] at H
    exact absurd H (by simp)
   rw [if_pos c25] at H
   have c25b0 : decide (0 ≤ x23_1) = true := decide_eq_true c25
   clear c25
   by_cases c26 : x23_1 < (y227.length : Int)
   rotate_left
   ·
    rw [if_neg c26] at H
    exact absurd H (by simp)
   rw [if_pos c26] at H
   have c26b0 : decide (x23_1 < (y227.length : Int)) = true := decide_eq_true c26
   clear c26
   by_cases c27 : 0 < ((rd_L10 y227 x23_1).length : Int)
   rotate_left
   ·
    rw [if_neg c27] at H
    exact absurd H (by simp)
   rw [if_pos c27] at H
   have c27b0 : decide (0 < ((rd_L10 y227 x23_1).length : Int)) = true := decide_eq_true c27
   have c27b1 : decide (0 < (rd_L10 y227 x23_1).length) = true := decide_eq_true (by omega)
   clear c27
   by_cases c28 : 1 < ((rd_L10 y227 x23_1).length : Int)
   rotate_left
   ·
    rw [if_neg c28] at H
    exact absurd H (by simp)
   rw [if_pos c28] at H
   have c28b0 : decide (1 < ((rd_L10 y227 x23_1).length : Int)) = true := decide_eq_true c28
   have c28b1 : decide (1 < (rd_L10 y227 x23_1).length) = true := decide_eq_true (by omega)
   clear c28
   replace H := Option.bind_eq_some_iff.mp H
   obtain ⟨⟨t233, t234⟩, A290, H⟩ := H
   replace H : (honeycombref07_turned.l1 k1 a0 x1_1 y227 x6_1 t233 t234 1 y227 (y227.length : Int) x23_1 y227 (y227.length : Int) 0) = some r := H
   have A29 := Aside0.mk A290
   clear A290
   have H' := Aside0.mk H
   clear H
   have p230 : 0 ≤ (x23_1 : Int) := of_decide_eq_true as_
   have q230 : x23_1 < (y227.length : Int) := of_decide_eq_true as_
   obtain ⟨ad230, A230_0, c230_0, e230, hx230_0, hl230_0, hi230_0⟩ := at_L10 (Kd.N_reads' HO_21.out).2.2 x23_1 p230 q230
   cases e230
   obtain ⟨ce230, hce230, hMe230, hcc230⟩ := Kd.N_get HO_21.out [] x23_1 p230 (by first | exact q230 | exact of_decide_eq_true as_ | (have e_ := (Kd.N_reads' HO_21.out).1; omega))
   obtain ⟨ua230_0, uc230_0, rfl, ul230_0, ge230_0⟩ := Kd.FK_slice_open hMe230
   have hv230_0 := hcc230 0 _ rfl
   rw [Nat.add_zero, show ((Kd.slice 2 (Kd.int .i64))).sz = 1 from rfl, Nat.mul_one] at hv230_0
   replace hv230_0 := Option.some.inj (hv230_0.symm.trans hx230_0)
   injection hv230_0 with hva_ hvn_ hvc_
   rw [hva_] at ge230_0
   rw [hvc_] at ul230_0
   have HL230_0 := Aside0.mk (show Kd.V (Kd.int .i64) 2 _ w.heap.size _ _ (rd_L10 y227 x23_1) from Kd.V_mk ul230_0 ge230_0)
   clear hva_ hvn_ hvc_ ge230_0 ul230_0
   clear hcc230 hce230
   have HR230_0 := Aside0.mk hi230_0
   have HC230_0 := Aside0.mk hl230_0
   clear hi230_0 hl230_0
   replace p230 := eq_true p230
   replace q230 := eq_true q230
   have p231 : 0 ≤ (0 : Int) := (by omega)
   have q231 : 0 < ((rd_L10 y227 x23_1).length : Int) := of_decide_eq_true as_
   obtain ⟨ad231, e231, hx231_0⟩ := Kd.at_int (by repeat (first | (with_reducible exact HR230_0.out) | (with_reducible refine Kd.C_alloc ?_ _) | (with_reducible refine Kd.C_drewN ?_ _) | (with_reducible refine Kd.C_drew ?_) | exact HR230_0.out)) 0 p231 q231
   cases e231
   have qi231 : (0 < (rd_L10 y227 x23_1).length) = True := eq_true (by omega)
   (try rw [show ((0 : Int)).toNat = 0 from rfl] at hx231_0)
   (try rw [Addr.add_zero'] at hx231_0)
   replace p231 := eq_true p231
   replace q231 := eq_true q231
   have p232 : 0 ≤ (1 : Int) := (by omega)
   have q232 : 1 < ((rd_L10 y227 x23_1).length : Int) := of_decide_eq_true as_
   obtain ⟨ad232, e232, hx232_0⟩ := Kd.at_int (by repeat (first | (with_reducible exact HR230_0.out) | (with_reducible refine Kd.C_alloc ?_ _) | (with_reducible refine Kd.C_drewN ?_ _) | (with_reducible refine Kd.C_drew ?_) | exact HR230_0.out)) 1 p232 q232
   obtain rfl : ad231 = ad232 := (by injection e232)
   (try simp only [show (1 : Int).toNat = 1 from rfl, Nat.reduceMul, Nat.reduceEqDiff, Go.Addr.add, ↓reduceIte] at hx232_0)
   have qi232 : (1 < (rd_L10 y227 x23_1).length) = True := eq_true (by omega)
   (try rw [show ((1 : Int)).toNat = 1 from rfl] at hx232_0)
   replace p232 := eq_true p232
   replace q232 := eq_true q232
   go_wp2_with (first | (go_at_call 85; (with_reducible refine (honeycombref01_On.calls k1 a0 (rd (rd_L10 y227 x23_1) 0) (rd (rd_L10 y227 x23_1) 1) t233 t234 _ A29.out).mono ?_); rintro e w' ⟨rfl, ⟨nd, rfl⟩⟩; (try first | exact ⟨rfl, _, World.drewN_drewN _ _ _⟩ | exact ⟨rfl, _, Eq.trans (World.drewN_drewN _ _ _) (congrArg (World.drewN _) (Nat.add_assoc _ _ _))⟩)))
   repeat (go_quiet (first | (go_at_call 85; (with_reducible refine (honeycombref01_On.calls k1 a0 (rd (rd_L10 y227 x23_1) 0) (rd (rd_L10 y227 x23_1) 1) t233 t234 _ A29.out).mono ?_); rintro e w' ⟨rfl, ⟨nd, rfl⟩⟩; (try first | exact ⟨rfl, _, World.drewN_drewN _ _ _⟩ | exact ⟨rfl, _, Eq.trans (World.drewN_drewN _ _ _) (congrArg (World.drewN _) (Nat.add_assoc _ _ _))⟩))); try go_wp2_with (first | (go_at_call 85; (with_reducible refine (honeycombref01_On.calls k1 a0 (rd (rd_L10 y227 x23_1) 0) (rd (rd_L10 y227 x23_1) 1) t233 t234 _ A29.out).mono ?_); rintro e w' ⟨rfl, ⟨nd, rfl⟩⟩; (try first | exact ⟨rfl, _, World.drewN_drewN _ _ _⟩ | exact ⟨rfl, _, Eq.trans (World.drewN_drewN _ _ _) (congrArg (World.drewN _) (Nat.add_assoc _ _ _))⟩))))
   go_loopg [6, 11, 40] k1 (fun kq v6 v11 v40 w' => ∃ (x6_2 : Int) (x11_2 : Int) (x40_2 : Int), v6 = .int .i64 x6_2 ∧ v11 = .int .i64 x11_2 ∧ v40 = .int .i64 x40_2 ∧ Aside0 (honeycombref07_turned.l1 kq a0 x1_1 y227 x6_2 t233 t234 x11_2 y227 (y227.length : Int) x23_1 y227 (y227.length : Int) x40_2 = some r) ∧ Aside0 (kq ≤ k1) ∧ Aside0 (Kd.N (Kd.slice 2 (Kd.int .i64)) 111 w' w.heap.size (fun _ => True) (.slice (some ad230) y227.length co23) y227) ∧ Aside0 (Kd.N (Kd.slice 2 (Kd.int .i64)) 111 w' w.heap.size (fun _ => True) (.slice (some ad230) y227.length co23) y227) ∧ Aside0 (Kd.N (Kd.slice 2 (Kd.int .i64)) 111 w' w.heap.size (fun _ => True) (.slice (some ad230) y227.length co23) y227) ∧ Aside0 (Kd.C (Kd.int .i64) w' (some ad231) (rd_L10 y227 x23_1).length (rd_L10 y227 x23_1)) ∧ Aside0 (Below w.heap.size w w'))
   case atStart => exact ⟨(x6_1), (1), (0), rs_, rs_, rs_, H', ⟨Nat.le_refl _⟩, ⟨kn_ HO_5.out⟩, ⟨kn_ HO_21.out⟩, ⟨kn_ HO_5.out⟩, ⟨by repeat (first | (with_reducible exact HR230_0.out) | (with_reducible refine Kd.C_alloc ?_ _) | (with_reducible refine Kd.C_drewN ?_ _) | (with_reducible refine Kd.C_drew ?_) | exact HR230_0.out)⟩, ⟨by repeat (first | (with_reducible first | exact HB.out | apply ba_ | apply bn_ | apply bd_) | exact HB.out)⟩⟩
   case round =>
    clear H'
    try clear c2
    try clear p2
    try clear q2
    try clear hx2
    try clear qi2
    try clear c5
    try clear c23
    try clear p23
    try clear q23
    try clear hx23
    try clear qi23
    try clear c24
    try clear c24b0
    try clear c25
    try clear c25b0
    try clear c26
    try clear c26b0
    try clear c27
    try clear c27b0
    try clear c27b1
    try clear c28
    try clear c28b0
    try clear c28b1
    try clear hx230_0
    try clear hx231_0
    try clear hx232_0
    try clear p2
    try clear p230
    try clear p231
    try clear p232
    try clear q230
    try clear q231
    try clear q232
    obtain ⟨x6_2, x11_2, x40_2, rfl, rfl, rfl, HA, HK2, HO_5, HO_21, HO_38, HR230_0, HB⟩ := hrel
    cases gk with
    | zero => exact absurd HA.out (by simp [honeycombref07_turned.l1])
    | succ k2 =>
     have H := HA.out
     clear HA
     simp only [honeycombref07_turned.l1] at H
     by_cases c30 : x40_2 < (y227.length : Int)
     rotate_left
     ·
      rw [if_neg c30] at H
      have c30b0 : decide (x40_2 < (y227.length : Int)) = false := decide_eq_false c30
      clear c30
      have H' := Aside0.mk H
      clear H
      go_wp2
      repeat (go_quiet (fail); try go_wp2)
      go_roundg k2
      case measure => have := HK1.out; have := HK2.out; omega
      case rel => exact ⟨(wrap64 (Int.tdiv x1_1 2)), (x6_2), (wrap64 (x23_1 + 1)), rs_, rs_, rs_, H', ⟨by have := HK1.out; have := HK2.out; omega⟩, ⟨kn_ HO_5.out⟩, ⟨kn_ HO_21.out⟩, ⟨by repeat (first | (with_reducible first | exact HB.out | apply ba_ | apply bn_ | apply bd_) | exact HB.out)⟩⟩
     rw [if_pos c30] at H
     have c30b0 : decide (x40_2 < (y227.length : Int)) = true := decide_eq_true c30
     clear c30
     by_cases c31 : 0 ≤ x40_2
     rotate_left
     ·
      rw [if_neg c31] at H
      exact absurd H (by simp)
     rw [if_pos c31] at H
     have c31b0 : decide (0 ≤ x40_2) = true := decide_eq_true c31
     clear c31
     by_cases c32 : x40_2 < (y227.length : Int)
     rotate_left
     ·
      rw [if_neg c32] at H
      exact absurd H (by simp)
     rw [if_pos c32] at H
     have c32b0 : decide (x40_2 < (y227.length : Int)) = true := decide_eq_true c32
     clear c32
     have HC33 := Aside0.mk H
     clear H
     have p235 : 0 ≤ (x40_2 : Int) := of_decide_eq_true as_
     have q235 : x40_2 < (y227.length : Int) := of_decide_eq_true as_
     obtain ⟨ad235, A235_0, c235_0, e235, hx235_0, hl235_0, hi235_0⟩ := at_L10 (Kd.N_reads' HO_38.out).2.2 x40_2 p235 q235
     obtain rfl : ad230 = ad235 := (by injection e235)
     obtain ⟨ce235, hce235, hMe235, hcc235⟩ := Kd.N_get HO_38.out [] x40_2 p235 (by first | exact q235 | exact of_decide_eq_true as_ | (have e_ := (Kd.N_reads' HO_38.out).1; omega))
     obtain ⟨ua235_0, uc235_0, rfl, ul235_0, ge235_0⟩ := Kd.FK_slice_open hMe235
     have hv235_0 := hcc235 0 _ rfl
     rw [Nat.add_zero, show ((Kd.slice 2 (Kd.int .i64))).sz = 1 from rfl, Nat.mul_one] at hv235_0
     replace hv235_0 := Option.some.inj (hv235_0.symm.trans hx235_0)
     injection hv235_0 with hva_ hvn_ hvc_
     rw [hva_] at ge235_0
     rw [hvc_] at ul235_0
     have HL235_0 := Aside0.mk (show Kd.V (Kd.int .i64) 2 _ w.heap.size _ _ (rd_L10 y227 x40_2) from Kd.V_mk ul235_0 ge235_0)
     clear hva_ hvn_ hvc_ ge235_0 ul235_0
     clear hcc235 hce235
     have HR235_0 := Aside0.mk hi235_0
     have HC235_0 := Aside0.mk hl235_0
     clear hi235_0 hl235_0
     replace p235 := eq_true p235
     replace q235 := eq_true q235
     go_upto_region 11 with (fail)
     repeat (go_quiet (fail); go_upto_region 11 with (fail))
     go_cut [60] (fun v60 wc => ∃ (kq : Nat) (x60_32 : Bool), v60 = .bool x60_32 ∧ Aside0 (honeycombref07_turned.j2 kq a0 x1_1 y227 x6_2 t233 t234 x11_2 y227 (y227.length : Int) x23_1 y227 (y227.length : Int) x40_2 x60_32 = some r) ∧ Aside0 (kq ≤ k2) ∧ Aside0 (Kd.N (Kd.slice 2 (Kd.int .i64)) 111 wc w.heap.size (fun _ => True) (.slice (some ad230) y227.length co23) y227) ∧ Aside0 (Kd.N (Kd.slice 2 (Kd.int .i64)) 111 wc w.heap.size (fun _ => True) (.slice (some ad230) y227.length co23) y227) ∧ Aside0 (Kd.N (Kd.slice 2 (Kd.int .i64)) 111 wc w.heap.size (fun _ => True) (.slice (some ad230) y227.length co23) y227) ∧ Aside0 (Kd.C (Kd.int .i64) wc (some ad231) (rd_L10 y227 x23_1).length (rd_L10 y227 x23_1)) ∧ Aside0 (Kd.C (Kd.int .i64) wc A235_0 (rd_L10 y227 x40_2).length (rd_L10 y227 x40_2)) ∧ Aside0 (Below w.heap.size w wc))
     case first =>
      have H := HC33.out
      clear HC33
      by_cases c34 : 0 < ((rd_L10 y227 x40_2).length : Int)
      rotate_left
      ·
       rw [if_neg c34] at H
       exact absurd H (by simp)
      rw [if_pos c34] at H
      have c34b0 : decide (0 < ((rd_L10 y227 x40_2).length : Int)) = true := decide_eq_true c34
      have c34b1 : decide (0 < (rd_L10 y227 x40_2).length) = true := decide_eq_true (by omega)
      clear c34
      (first | rw [c34b0] | (simp only [i64_w, i32_w]; rw [c34b0]) | skip)
      by_cases c35 : (rd (rd_L10 y227 x40_2) 0) = t233
      rotate_left
      ·
       rw [if_neg c35] at H
       have c35b0 : ((rd (rd_L10 y227 x40_2) 0) == t233) = false := beq_eq_false_iff_ne.mpr c35
       have c35b1 : ((rd (rd_L10 y227 x40_2) 0) != t233) = true := bne_iff_ne.mpr c35
       have H' := Aside0.mk H
       clear H
       have p236 : 0 ≤ (0 : Int) := (by omega)
       have q236 : 0 < ((rd_L10 y227 x40_2).length : Int) := of_decide_eq_true as_
       obtain ⟨ad236, e236, hx236_0⟩ := Kd.at_int (by repeat (first | (with_reducible exact HR235_0.out) | (with_reducible refine Kd.C_alloc ?_ _) | (with_reducible refine Kd.C_drewN ?_ _) | (with_reducible refine Kd.C_drew ?_) | exact HR235_0.out)) 0 p236 q236
       cases e236
       have qi236 : (0 < (rd_L10 y227 x40_2).length) = True := eq_true (by omega)
       (try rw [show ((0 : Int)).toNat = 0 from rfl] at hx236_0)
       (try rw [Addr.add_zero'] at hx236_0)
       replace p236 := eq_true p236
       replace q236 := eq_true q236
       go_wp2
       repeat (go_quiet (fail); try go_wp2)
       go_meet
       case rel => exact ⟨_, (false), rs_, H', ⟨by have := HK1.out; have := HK2.out; first | omega | exact Nat.le_refl _⟩, ⟨kn_ HO_5.out⟩, ⟨kn_ HO_21.out⟩, ⟨kn_ HO_38.out⟩, ⟨by repeat (first | (with_reducible exact HR230_0.out) | (with_reducible refine Kd.C_alloc ?_ _) | (with_reducible refine Kd.C_drewN ?_ _) | (with_reducible refine Kd.C_drew ?_) | exact HR230_0.out)⟩, ⟨by repeat (first | (with_reducible exact HR235_0.out) | (with_reducible refine Kd.C_alloc ?_ _) | (with_reducible refine Kd.C_drewN ?_ _) | (with_reducible refine Kd.C_drew ?_) | exact HR235_0.out)⟩, ⟨by repeat (first | (with_reducible first | exact HB.out | apply ba_ | apply bn_ | apply bd_) | exact HB.out)⟩⟩
      rw [if_pos c35] at H
      have c35b0 : ((rd (rd_L10 y227 x40_2) 0) == t233) = true := beq_iff_eq.mpr c35
      have c35b1 : ((rd (rd_L10 y227 x40_2) 0) != t233) = false := bne_eq_false_iff_eq.mpr c35
      clear c35
      by_cases c36 : 1 < ((rd_L10 y227 x40_2).length : Int)
      rotate_left
      ·
       rw [if_neg c36] at H
       exact absurd H (by simp)
      rw [if_pos c36] at H
      have c36b0 : decide (1 < ((rd_L10 y227 x40_2).length : Int)) = true := decide_eq_true c36
      have c36b1 : decide (1 < (rd_L10 y227 x40_2).length) = true := decide_eq_true (by omega)
      clear c36
      by_cases c37 : (rd (rd_L10 y227 x40_2) 1) = t234
      rotate_left
      ·
       rw [if_neg c37] at H
       have c37b0 : ((rd (rd_L10 y227 x40_2) 1) == t234) = false := beq_eq_false_iff_ne.mpr c37
       have c37b1 : ((rd (rd_L10 y227 x40_2) 1) != t234) = true := bne_iff_ne.mpr c37
       have H' := Aside0.mk H
       clear H
       have p236 : 0 ≤ (0 : Int) := (by omega)
       have q236 : 0 < ((rd_L10 y227 x40_2).length : Int) := of_decide_eq_true as_
       obtain ⟨ad236, e236, hx236_0⟩ := Kd.at_int (by repeat (first | (with_reducible exact HR235_0.out) | (with_reducible refine Kd.C_alloc ?_ _) | (with_reducible refine Kd.C_drewN ?_ _) | (with_reducible refine Kd.C_drew ?_) | exact HR235_0.out)) 0 p236 q236
       cases e236
       have qi236 : (0 < (rd_L10 y227 x40_2).length) = True := eq_true (by omega)
       (try rw [show ((0 : Int)).toNat = 0 from rfl] at hx236_0)
       (try rw [Addr.add_zero'] at hx236_0)
       replace p236 := eq_true p236
       replace q236 := eq_true q236
       have p237 : 0 ≤ (1 : Int) := (by omega)
       have q237 : 1 < ((rd_L10 y227 x40_2).length : Int) := of_decide_eq_true as_
       obtain ⟨ad237, e237, hx237_0⟩ := Kd.at_int (by repeat (first | (with_reducible exact HR235_0.out) | (with_reducible refine Kd.C_alloc ?_ _) | (with_reducible refine Kd.C_drewN ?_ _) | (with_reducible refine Kd.C_drew ?_) | exact HR235_0.out)) 1 p237 q237
       obtain rfl : ad236 = ad237 := (by injection e237)
       (try simp only [show (1 : Int).toNat = 1 from rfl, Nat.reduceMul, Nat.reduceEqDiff, Go.Addr.add, ↓reduceIte] at hx237_0)
       have qi237 : (1 < (rd_L10 y227 x40_2).length) = True := eq_true (by omega)
       (try rw [show ((1 : Int)).toNat = 1 from rfl] at hx237_0)
       replace p237 := eq_true p237
       replace q237 := eq_true q237
       go_wp2
       repeat (go_quiet (fail); try go_wp2)
       go_meet
       case rel => exact ⟨_, (false), rs_, H', ⟨by have := HK1.out; have := HK2.out; first | omega | exact Nat.le_refl _⟩, ⟨kn_ HO_5.out⟩, ⟨kn_ HO_21.out⟩, ⟨kn_ HO_38.out⟩, ⟨by repeat (first | (with_reducible exact HR230_0.out) | (with_reducible refine Kd.C_alloc ?_ _) | (with_reducible refine Kd.C_drewN ?_ _) | (with_reducible refine Kd.C_drew ?_) | exact HR230_0.out)⟩, ⟨by repeat (first | (with_reducible exact HR235_0.out) | (with_reducible refine Kd.C_alloc ?_ _) | (with_reducible refine Kd.C_drewN ?_ _) | (with_reducible refine Kd.C_drew ?_) | exact HR235_0.out)⟩, ⟨by repeat (first | (with_reducible first | exact HB.out | apply ba_ | apply bn_ | apply bd_) | exact HB.out)⟩⟩
      rw [if_pos c37] at H
      have c37b0 : ((rd (rd_L10 y227 x40_2) 1) == t234) = true := beq_iff_eq.mpr c37
      have c37b1 : ((rd (rd_L10 y227 x40_2) 1) != t234) = false := bne_eq_false_iff_eq.mpr c37
      clear c37
      have H' := Aside0.mk H
      clear H
      have p236 : 0 ≤ (0 : Int) := (by omega)
      have q236 : 0 < ((rd_L10 y227 x40_2).length : Int) := of_decide_eq_true as_
      obtain ⟨ad236, e236, hx236_0⟩ := Kd.at_int (by repeat (first | (with_reducible exact HR235_0.out) | (with_reducible refine Kd.C_alloc ?_ _) | (with_reducible refine Kd.C_drewN ?_ _) | (with_reducible refine Kd.C_drew ?_) | exact HR235_0.out)) 0 p236 q236
      cases e236
      have qi236 : (0 < (rd_L10 y227 x40_2).length) = True := eq_true (by omega)
      (try rw [show ((0 : Int)).toNat = 0 from rfl] at hx236_0)
      (try rw [Addr.add_zero'] at hx236_0)
      replace p236 := eq_true p236
      replace q236 := eq_true q236
      have p237 : 0 ≤ (1 : Int) := (by omega)
      have q237 : 1 < ((rd_L10 y227 x40_2).length : Int) := of_decide_eq_true as_
      obtain ⟨ad237, e237, hx237_0⟩ := Kd.at_int (by repeat (first | (with_reducible exact HR235_0.out) | (with_reducible refine Kd.C_alloc ?_ _) | (with_reducible refine Kd.C_drewN ?_ _) | (with_reducible refine Kd.C_drew ?_) | exact HR235_0.out)) 1 p237 q237
      obtain rfl : ad236 = ad237 := (by injection e237)
      (try simp only [show (1 : Int).toNat = 1 from rfl, Nat.reduceMul, Nat.reduceEqDiff, Go.Addr.add, ↓reduceIte] at hx237_0)
      have qi237 : (1 < (rd_L10 y227 x40_2).length) = True := eq_true (by omega)
      (try rw [show ((1 : Int)).toNat = 1 from rfl] at hx237_0)
      replace p237 := eq_true p237
      replace q237 := eq_true q237
      go_wp2
      repeat (go_quiet (fail); try go_wp2)
      go_meet
      case rel => exact ⟨_, (((Int.tmod x1_1 2) == 1)), rs_, H', ⟨by have := HK1.out; have := HK2.out; first | omega | exact Nat.le_refl _⟩, ⟨kn_ HO_5.out⟩, ⟨kn_ HO_21.out⟩, ⟨kn_ HO_38.out⟩, ⟨by repeat (first | (with_reducible exact HR230_0.out) | (with_reducible refine Kd.C_alloc ?_ _) | (with_reducible refine Kd.C_drewN ?_ _) | (with_reducible refine Kd.C_drew ?_) | exact HR230_0.out)⟩, ⟨by repeat (first | (with_reducible exact HR235_0.out) | (with_reducible refine Kd.C_alloc ?_ _) | (with_reducible refine Kd.C_drewN ?_ _) | (with_reducible refine Kd.C_drew ?_) | exact HR235_0.out)⟩, ⟨by repeat (first | (with_reducible first | exact HB.out | apply ba_ | apply bn_ | apply bd_) | exact HB.out)⟩⟩
     case rest =>
      clear HC33
      try clear c2
      try clear p2
      try clear q2
      try clear hx2
      try clear qi2
      try clear c3
      try clear c5
      try clear c23
      try clear p23
      try clear q23
      try clear hx23
      try clear qi23
      try clear c24
      try clear c24b0
      try clear c25
      try clear c25b0
      try clear c26
      try clear c26b0
      try clear c27
      try clear c27b0
      try clear c27b1
      try clear c28
      try clear c28b0
      try clear c28b1
      try clear c30
      try clear c30b0
      try clear c31
      try clear c31b0
      try clear c32
      try clear c32b0
      try clear c34
      try clear c34b0
      try clear c34b1
      try clear c35
      try clear c35b0
      try clear c35b1
      try clear c36
      try clear c36b0
      try clear c36b1
      try clear c37
      try clear c37b0
      try clear c37b1
      try clear hx230_0
      try clear hx231_0
      try clear hx232_0
      try clear hx235_0
      try clear hx236_0
      try clear hx237_0
      try clear p2
      try clear p23
      try clear p230
      try clear p231
      try clear p232
      try clear p235
      try clear p236
      try clear p237
      try clear q2
      try clear q23
      try clear q230
      try clear q231
      try clear q232
      try clear q235
      try clear q236
      try clear q237
      obtain ⟨kq, x60_32, rfl, HA, HJ32, HO_5, HO_21, HO_38, HR230_0, HR235_0, HB⟩ := hcut
      cases kq with
      | zero => exact absurd HA.out (by simp [honeycombref07_turned.j2])
      | succ kj32 =>
       have H := HA.out
       clear HA
       simp only [honeycombref07_turned.j2] at H
       by_cases c38 : x60_32 = true
       ·
        subst c38
        have H1 : (honeycombref07_turned.l1 kj32 a0 x1_1 y227 (wrap64 (x6_2 + x11_2)) t233 t234 (wrap64 (2 * x11_2)) y227 (y227.length : Int) x23_1 y227 (y227.length : Int) (wrap64 (x40_2 + 1))) = some r := by rw [if_pos rfl] at H; exact H
        clear H
        have H := H1
        clear H1
        have H' := Aside0.mk H
        clear H
        go_wp2
        repeat (go_quiet (fail); try go_wp2)
        go_roundg kj32
        case measure => have := HK1.out; have := HK2.out; have := HJ32.out; omega
        case rel => exact ⟨(wrap64 (x6_2 + x11_2)), (wrap64 (2 * x11_2)), (wrap64 (x40_2 + 1)), rs_, rs_, rs_, H', ⟨by have := HK1.out; have := HK2.out; have := HJ32.out; omega⟩, ⟨kn_ HO_5.out⟩, ⟨kn_ HO_21.out⟩, ⟨kn_ HO_38.out⟩, ⟨by repeat (first | (with_reducible exact HR230_0.out) | (with_reducible refine Kd.C_alloc ?_ _) | (with_reducible refine Kd.C_drewN ?_ _) | (with_reducible refine Kd.C_drew ?_) | exact HR230_0.out)⟩, ⟨by repeat (first | (with_reducible first | exact HB.out | apply ba_ | apply bn_ | apply bd_) | exact HB.out)⟩⟩
       replace c38 := Bool.eq_false_iff.mpr c38
       subst c38
       have H1 : (honeycombref07_turned.l1 kj32 a0 x1_1 y227 x6_2 t233 t234 (wrap64 (2 * x11_2)) y227 (y227.length : Int) x23_1 y227 (y227.length : Int) (wrap64 (x40_2 + 1))) = some r := by rw [if_neg (show ¬ (false = true) by decide)] at H; exact H
       clear H
       have H := H1
       clear H1
       have H' := Aside0.mk H
       clear H
       go_wp2
       repeat (go_quiet (fail); try go_wp2)
       go_roundg kj32
       case measure => have := HK1.out; have := HK2.out; have := HJ32.out; omega
       case rel => exact ⟨(x6_2), (wrap64 (2 * x11_2)), (wrap64 (x40_2 + 1)), rs_, rs_, rs_, H', ⟨by have := HK1.out; have := HK2.out; have := HJ32.out; omega⟩, ⟨kn_ HO_5.out⟩, ⟨kn_ HO_21.out⟩, ⟨kn_ HO_38.out⟩, ⟨by repeat (first | (with_reducible exact HR230_0.out) | (with_reducible refine Kd.C_alloc ?_ _) | (with_reducible refine Kd.C_drewN ?_ _) | (with_reducible refine Kd.C_drew ?_) | exact HR230_0.out)⟩, ⟨by repeat (first | (with_reducible first | exact HB.out | apply ba_ | apply bn_ | apply bd_) | exact HB.out)⟩⟩
end H
namespace H
attribute [local go_sem] max2_int min2_int max_two min_two max_three min_three max_four min_four
def rkeepsHex.l0 : Nat → Int → Int → Int → List Int → List Int → Option (Bool)
 | 0, _, _, _, _, _ => none
 | k + 1, x1, x6, x155000, x155001, x155002 => if x6 < 64 then ((honeycombref05_Next.f k x155000 x155001 x155002 0 false x6).bind fun t155 => ((honeycombref07_turned.f k x1 x6).bind fun t156 => ((honeycombref05_Next.f k x155000 x155001 x155002 0 false t156).bind fun t157 => (if (t155 != t157) = true then (some false) else ((honeycombref05_Next.f k x155000 x155001 x155002 0 true x6).bind fun t158 => ((honeycombref07_turned.f k x1 x6).bind fun t159 => ((honeycombref05_Next.f k x155000 x155001 x155002 0 true t159).bind fun t160 => (if (t158 != t160) = true then (some false) else (rkeepsHex.l0 k x1 (wrap64 (x6 + 1)) x155000 x155001 x155002))))))))) else (some true)
def rkeepsHex.f (k : Nat) (a0_0 : Int) (l0_1 : List Int) (l0_2 : List Int) (a1 : Int) : Option (Bool) := if a0_0 > 1 then (none) else (rkeepsHex.l0 k a1 0 a0_0 l0_1 l0_2)
theorem rkeepsHex.mono_l : ∀ k, (∀ y0 y1 y2 y3 y4, LeO (rkeepsHex.l0 k y0 y1 y2 y3 y4) (rkeepsHex.l0 (k + 1) y0 y1 y2 y3 y4))
 | 0 => fun _ _ _ _ _ r h => by simp [rkeepsHex.l0] at h
 | k + 1 => by
  have ih0 := rkeepsHex.mono_l k
  ·
   intro y0 y1 y2 y3 y4
   unfold rkeepsHex.l0
   repeat' first
   | (with_reducible exact ih0 _ _ _ _ _)
   | (with_reducible exact honeycombref05_Next.mono _ _ _ _ _ _ _)
   | (with_reducible exact honeycombref07_turned.mono _ _ _)
   | (with_reducible exact LeO.refl _)
   | (with_reducible exact LeO.none _)
   | (with_reducible refine LeO.ite ?_ ?_)
   | (with_reducible refine LeO.bind ?_ (fun _ => ?_))
   | exact ih0 _ _ _ _ _
   | exact honeycombref05_Next.mono _ _ _ _ _ _ _
   | exact honeycombref07_turned.mono _ _ _
   | exact LeO.none _
   | refine LeO.ite ?_ ?_
   | refine LeO.bind ?_ (fun _ => ?_)
theorem rkeepsHex.mono : ∀ a0 a1 a2 a3 k, LeO (rkeepsHex.f k a0 a1 a2 a3) (rkeepsHex.f (k + 1) a0 a1 a2 a3) := by
 intro a0 a1 a2 a3 k
 have ih0 := rkeepsHex.mono_l k
 unfold rkeepsHex.f
 repeat' first
   | (with_reducible exact ih0 _ _ _ _ _)
   | (with_reducible exact honeycombref05_Next.mono _ _ _ _ _ _ _)
   | (with_reducible exact honeycombref07_turned.mono _ _ _)
   | (with_reducible exact LeO.refl _)
   | (with_reducible exact LeO.none _)
   | (with_reducible refine LeO.ite ?_ ?_)
   | (with_reducible refine LeO.bind ?_ (fun _ => ?_))
   | exact ih0 _ _ _ _ _
   | exact honeycombref05_Next.mono _ _ _ _ _ _ _
   | exact honeycombref07_turned.mono _ _ _
   | exact LeO.none _
   | refine LeO.ite ?_ ?_
   | refine LeO.bind ?_ (fun _ => ?_)
def rkeepsHex.T7 : Bool × List (List Nat × List Nat) := (true, [([], []), ([], []), ([0, 1], [0, 1]), ([], []), ([], []), ([], []), ([4, 5, 2], [4, 5]), ([3, 6, 6], [3, 6]), ([2, 7], [2, 7]), ([8, 7], [8]), ([9], [9]), ([9], [9]), ([10, 11, 9, 9], [9, 10, 11]), ([9], [9]), ([9], [9]), ([9], [9]), ([14, 15, 12, 9], [9, 14, 15]), ([13, 16, 16, 9], [9, 13, 16]), ([12, 17, 9], [9, 12, 17]), ([9, 18], [9, 18])])
def rkeepsHex.B7 : List Nat := [0, 0, 3, 0, 0, 0, 55, 127, 255, 511, 1023, 1023, 4095, 1023, 1023, 1023, 57343, 131071, 262143, 524287]
theorem rkeepsHex.tab7 : rtab .any (opsOf Tryd.f42 7) = rkeepsHex.T7 := by kernel_rfl
theorem rkeepsHex.bits7 : waitsOk rkeepsHex.T7.2 rkeepsHex.B7 = true := by kernel_rfl
theorem rkeepsHex.calls (k : Nat) (a0_0 : Int) (A0_1 : Option Addr) (c0_1 : Nat) (l0_1 : List Int) (A0_2 : Option Addr) (c0_2 : Nat) (l0_2 : List Int) (a1 : Int) (r : Bool) (w : World) (hr0_1 : Kd.C (Kd.int .u64) w A0_1 l0_1.length l0_1) (hc0_1 : l0_1.length ≤ c0_1) (hr0_2 : Kd.C (Kd.int .u64) w A0_2 l0_2.length l0_2) (hc0_2 : l0_2.length ≤ c0_2) (h : rkeepsHex.f k a0_0 l0_1 l0_2 a1 = some r) :
  Calls Tryd.prog 42 #[.agg #[.int .i64 a0_0, .slice A0_1 l0_1.length c0_1, .slice A0_2 l0_2.length c0_2], .int .i64 a1] w fun e w' => e = .returned (.bool r) ∧ Below w.heap.size w w' := by
 have hu55 := Tryd.underlying55
 have HR0_1 := Aside0.mk hr0_1
 have HC0_1 := Aside0.mk hc0_1
 clear hr0_1 hc0_1
 have HR0_2 := Aside0.mk hr0_2
 have HC0_2 := Aside0.mk hc0_2
 clear hr0_2 hc0_2
 have HB := Aside0.mk (Below.refl w.heap.size w)
 have H : (if a0_0 > 1 then (none) else (rkeepsHex.l0 k a1 0 a0_0 l0_1 l0_2)) = some r := h
 clear h
 by_cases c3 : a0_0 > 1
 ·
  rw [if_pos c3] at H
  exact absurd H (by simp)
 rw [if_neg c3] at H
 have c3b0 : decide (1 < a0_0) = false := decide_eq_false c3
 clear c3
 have H' := Aside0.mk H
 clear H
 go_enter Tryd.func42, Tryd.ntmps42
 go_wp2_with (first | ((with_reducible refine gate_dst (N := 2) rfl ?_); refine bx_ 2 #[.int .i64 a0_0, .slice A0_1 l0_1.length c0_1, .slice A0_2 l0_2.length c0_2] 55 ?_; intro gb154 hg w4 hbox hb; have BK154 := Aside0.mk (hbox); have GW154 := Aside0.mk ((by rw [hg]; exact (below_size hb_) : w.heap.size ≤ gb154)); have GE154 := GW154; replace HB := Aside0.mk (below_step hb_ hb); clear hb hbox hg; obtain ⟨hcz5_0, hcz5_1, hcz5_2⟩ := cz3_ BK154.out; obtain ⟨hfz5_0, hfz5_1, hfz5_2⟩ := fz3_ BK154.out))
 go_loopg [6] k (fun kq v6 w' => ∃ (x6_1 : Int), v6 = .int .i64 x6_1 ∧ Aside0 (rkeepsHex.l0 kq a1 x6_1 a0_0 l0_1 l0_2 = some r) ∧ Aside0 (kq ≤ k) ∧ Aside0 (w'.heap[gb154]? = some (.cells #[.int .i64 a0_0, (.slice A0_1 l0_1.length c0_1), (.slice A0_2 l0_2.length c0_2)] 55 (0, 0))) ∧ Aside0 (Below w.heap.size w w'))
 case atStart => exact ⟨(0), rs_, H', ⟨Nat.le_refl _⟩, ⟨bk_ BK154.out⟩, ⟨by repeat (first | (with_reducible first | exact HB.out | apply ba_ | apply bn_ | apply bd_ | refine below_set ?_ GE154.out) | exact HB.out)⟩⟩
 case round =>
  clear H'
  try clear p2
  try clear c3
  try clear c3b0
  try clear c4
  try clear hcz5_0
  try clear hcz5_1
  try clear hcz5_2
  try clear hfz5_0
  try clear hfz5_1
  try clear hfz5_2
  obtain ⟨x6_1, rfl, HA, HK1, BK154, HB⟩ := hrel
  cases gk with
  | zero => exact absurd HA.out (by simp [rkeepsHex.l0])
  | succ k1 =>
   have H := HA.out
   clear HA
   simp only [rkeepsHex.l0] at H
   by_cases c6 : x6_1 < 64
   rotate_left
   ·
    rw [if_neg c6] at H
    have c6b0 : decide (x6_1 < 64) = false := decide_eq_false c6
    clear c6
    obtain rfl := Option.some.inj H
    go_wp2
    go_ret
    exact ⟨er_, hg_ GE154.out⟩
   rw [if_pos c6] at H
   have c6b0 : decide (x6_1 < 64) = true := decide_eq_true c6
   clear c6
   replace H := Option.bind_eq_some_iff.mp H
   obtain ⟨t155, A70, H⟩ := H
   replace H : ((honeycombref07_turned.f k1 a1 x6_1).bind fun t156 => ((honeycombref05_Next.f k1 a0_0 l0_1 l0_2 0 false t156).bind fun t157 => (if (t155 != t157) = true then (some false) else ((honeycombref05_Next.f k1 a0_0 l0_1 l0_2 0 true x6_1).bind fun t158 => ((honeycombref07_turned.f k1 a1 x6_1).bind fun t159 => ((honeycombref05_Next.f k1 a0_0 l0_1 l0_2 0 true t159).bind fun t160 => (if (t158 != t160) = true then (some false) else (rkeepsHex.l0 k1 a1 (wrap64 (x6_1 + 1)) a0_0 l0_1 l0_2)))))))) = some r := H
   have A7 := Aside0.mk A70
   clear A70
   replace H := Option.bind_eq_some_iff.mp H
   obtain ⟨t156, A80, H⟩ := H
   replace H : ((honeycombref05_Next.f k1 a0_0 l0_1 l0_2 0 false t156).bind fun t157 => (if (t155 != t157) = true then (some false) else ((honeycombref05_Next.f k1 a0_0 l0_1 l0_2 0 true x6_1).bind fun t158 => ((honeycombref07_turned.f k1 a1 x6_1).bind fun t159 => ((honeycombref05_Next.f k1 a0_0 l0_1 l0_2 0 true t159).bind fun t160 => (if (t158 != t160) = true then (some false) else (rkeepsHex.l0 k1 a1 (wrap64 (x6_1 + 1)) a0_0 l0_1 l0_2))))))) = some r := H
   have A8 := Aside0.mk A80
   clear A80
   replace H := Option.bind_eq_some_iff.mp H
   obtain ⟨t157, A90, H⟩ := H
   replace H : (if (t155 != t157) = true then (some false) else ((honeycombref05_Next.f k1 a0_0 l0_1 l0_2 0 true x6_1).bind fun t158 => ((honeycombref07_turned.f k1 a1 x6_1).bind fun t159 => ((honeycombref05_Next.f k1 a0_0 l0_1 l0_2 0 true t159).bind fun t160 => (if (t158 != t160) = true then (some false) else (rkeepsHex.l0 k1 a1 (wrap64 (x6_1 + 1)) a0_0 l0_1 l0_2)))))) = some r := H
   have A9 := Aside0.mk A90
   clear A90
   by_cases c10 : (t155 != t157) = true
   ·
    rw [if_pos c10] at H
    have c10b0 : (t155 != t157) = true := c10
    (try (have c10b1 : decide (t155 = t157) = false := by simpa using c10))
    (try (have c10b2 : (t155 == t157) = false := by simpa using c10))
    (try (have c10b3 : ¬ (t155 = t157) := by simpa using c10))
    clear c10
    obtain rfl := Option.some.inj H
    try go_wp2
    replace BK154 := Aside0.mk (blk_drew BK154.out)
    replace HB := Aside0.mk (below_drew1 HB.out)
    refine start_ (n := 20) (S := fun w' => w'.cell? ⟨gb154, 0, none⟩ = some (.int .i64 a0_0) ∧ w'.cell? ⟨gb154, 1, none⟩ = some (.slice A0_1 l0_1.length c0_1) ∧ w'.cell? ⟨gb154, 2, none⟩ = some (.slice A0_2 l0_2.length c0_2)) (ds := []) (m_ 20 0) (by kernel_rfl) rfl rfl ⟨(blk_cell BK154.out 0).trans rfl, (blk_cell BK154.out 1).trans rfl, (blk_cell BK154.out 2).trans rfl⟩ (fun hHeld => ?_); refine with_tabW rkeepsHex.tab7 rkeepsHex.bits7 (fun HT_ HW_ => ?_)
    generalize wr.drew = w11 at BK154 HB hHeld ⊢
    refine pq_ 1 (some 56) (m_ 20 2) (h := ?_)
    refine pq_ 4 (some 59) (m_ 20 18) (h := ?_)
    refine pq_ 5 (some 60) (m_ 20 50) (h := ?_)
    refine tq3_ 0 (some 55) (m_ 20 51) (h := ?_)
    refine tq3_ 3 (some 58) (m_ 20 59) (h := ?_)
    refine one_ (i := 2) (N := some 57) (m_ 20 63) rfl rfl (one_of HT_.out (by kernel_rfl)) (by decide) (fun K hK => ?_)
    refine goes_ Tryd.func35 (by kernel_rfl) rfl #[.agg #[.int .i64 a0_0, .slice A0_1 l0_1.length c0_1, .slice A0_2 l0_2.length c0_2], .int .i64 0, .bool false, .int .i64 x6_1] (by rfl) rfl rfl ar_ ?_
    with_reducible refine (honeycombref05_Next.calls k1 a0_0 _ _ l0_1 _ _ l0_2 0 false x6_1 t155 _ ?side1 ?side2 ?side3 ?side4 A7.out).mono ?_
    (case side1 => repeat (first | exact (Kd.C_below HR0_1.out HB.out) | (with_reducible refine Kd.C_alloc ?_ _) | (with_reducible refine Kd.C_drewN ?_ _) | (with_reducible refine Kd.C_drew ?_)))
    (case side2 => exact HC0_1.out)
    (case side3 => repeat (first | exact (Kd.C_below HR0_2.out HB.out) | (with_reducible refine Kd.C_alloc ?_ _) | (with_reducible refine Kd.C_drewN ?_ _) | (with_reducible refine Kd.C_drew ?_)))
    (case side4 => exact HC0_2.out)
    rintro e w12 ⟨rfl, hb⟩
    refine ⟨_, rfl, ?_⟩
    replace BK154 := bb_ BK154.out hb
    replace HB := Aside0.mk (below_step (hg_ GE154.out) hb)
    (try clear hb)
    (try clear hb2)
    (try clear hk)
    (try clear hi)
    refine hK.out _ _ ⟨(blk_cell BK154.out 0).trans rfl, (blk_cell BK154.out 1).trans rfl, (blk_cell BK154.out 2).trans rfl⟩ (fun hHeld => ?_)
    clear hK K
    refine norm_ (a' := ?_) ?_ ?_
    rotate_left
    ·
     show Act.put _ (some 57) _ = _
     simp only [puts_]
     rfl
    refine one_ (i := 6) (N := some 61) (m_ 20 127) rfl rfl (one_of HT_.out (by kernel_rfl)) (by decide) (fun K hK => ?_)
    refine goes_ Tryd.func52 (by kernel_rfl) rfl #[.int .i64 a1, .int .i64 x6_1] (by rfl) rfl rfl ar_ ?_
    with_reducible refine (honeycombref07_turned.calls k1 a1 x6_1 t156 _ A8.out).mono ?_
    rintro e w13 ⟨rfl, hb⟩
    refine ⟨_, rfl, ?_⟩
    replace BK154 := bb_ BK154.out hb
    replace HB := Aside0.mk (below_step (hg_ GE154.out) hb)
    (try clear hb)
    (try clear hb2)
    (try clear hk)
    (try clear hi)
    refine hK.out _ _ ⟨(blk_cell BK154.out 0).trans rfl, (blk_cell BK154.out 1).trans rfl, (blk_cell BK154.out 2).trans rfl⟩ (fun hHeld => ?_)
    clear hK K
    refine norm_ (a' := ?_) ?_ ?_
    rotate_left
    ·
     show Act.put _ (some 61) _ = _
     simp only [puts_]
     rfl
    refine one_ (i := 7) (N := some 62) (m_ 20 255) rfl rfl (one_of HT_.out (by kernel_rfl)) (by decide) (fun K hK => ?_)
    refine goes_ Tryd.func35 (by kernel_rfl) rfl #[.agg #[.int .i64 a0_0, .slice A0_1 l0_1.length c0_1, .slice A0_2 l0_2.length c0_2], .int .i64 0, .bool false, .int .i64 t156] (by rfl) rfl rfl ar_ ?_
    with_reducible refine (honeycombref05_Next.calls k1 a0_0 _ _ l0_1 _ _ l0_2 0 false t156 t157 _ ?side1 ?side2 ?side3 ?side4 A9.out).mono ?_
    (case side1 => repeat (first | exact (Kd.C_below HR0_1.out HB.out) | (with_reducible refine Kd.C_alloc ?_ _) | (with_reducible refine Kd.C_drewN ?_ _) | (with_reducible refine Kd.C_drew ?_)))
    (case side2 => exact HC0_1.out)
    (case side3 => repeat (first | exact (Kd.C_below HR0_2.out HB.out) | (with_reducible refine Kd.C_alloc ?_ _) | (with_reducible refine Kd.C_drewN ?_ _) | (with_reducible refine Kd.C_drew ?_)))
    (case side4 => exact HC0_2.out)
    rintro e w14 ⟨rfl, hb⟩
    refine ⟨_, rfl, ?_⟩
    replace BK154 := bb_ BK154.out hb
    replace HB := Aside0.mk (below_step (hg_ GE154.out) hb)
    (try clear hb)
    (try clear hb2)
    (try clear hk)
    (try clear hi)
    refine hK.out _ _ ⟨(blk_cell BK154.out 0).trans rfl, (blk_cell BK154.out 1).trans rfl, (blk_cell BK154.out 2).trans rfl⟩ (fun hHeld => ?_)
    clear hK K
    refine norm_ (a' := ?_) ?_ ?_
    rotate_left
    ·
     show Act.put _ (some 62) _ = _
     simp only [puts_]
     rfl
    refine pq_ 8 (some 63) (m_ 20 511) (h := ?_)
    refine pq_ 9 (some 64) (m_ 20 1023) (h := ?_)
    refine pu_ 10 (some 65) (m_ 20 2047) (h := ?_)
    refine pu_ 11 (some 66) (m_ 20 4095) (h := ?_)
    refine pu_ 12 (some 67) (m_ 20 8191) (h := ?_)
    refine pu_ 13 (some 68) (m_ 20 16383) (h := ?_)
    refine pu_ 14 (some 69) (m_ 20 32767) (h := ?_)
    refine pu_ 15 (some 70) (m_ 20 65535) (h := ?_)
    refine pu_ 16 (some 71) (m_ 20 131071) (h := ?_)
    refine pu_ 17 (some 72) (m_ 20 262143) (h := ?_)
    refine pu_ 18 (some 73) (m_ 20 524287) (h := ?_)
    refine pq_ 19 (some 74) (m_ 20 1048575) (h := ?_)
    refine done_ (done_of HT_.out (by kernel_rfl)) ?_
    try go_wp2
    go_ret
    exact ⟨er_, hg_ GE154.out⟩
   rw [if_neg c10] at H
   have c10b0 : (t155 != t157) = false := by simpa using c10
   (try (have c10b1 : decide (t155 = t157) = true := by simpa using c10))
   (try (have c10b2 : (t155 == t157) = true := by simpa using c10))
   clear c10
   replace H := Option.bind_eq_some_iff.mp H
   obtain ⟨t158, A150, H⟩ := H
   replace H : ((honeycombref07_turned.f k1 a1 x6_1).bind fun t159 => ((honeycombref05_Next.f k1 a0_0 l0_1 l0_2 0 true t159).bind fun t160 => (if (t158 != t160) = true then (some false) else (rkeepsHex.l0 k1 a1 (wrap64 (x6_1 + 1)) a0_0 l0_1 l0_2)))) = some r := H
   have A15 := Aside0.mk A150
   clear A150
   replace H := Option.bind_eq_some_iff.mp H
   obtain ⟨t159, A160, H⟩ := H
   replace H : ((honeycombref05_Next.f k1 a0_0 l0_1 l0_2 0 true t159).bind fun t160 => (if (t158 != t160) = true then (some false) else (rkeepsHex.l0 k1 a1 (wrap64 (x6_1 + 1)) a0_0 l0_1 l0_2))) = some r := H
   have A16 := Aside0.mk A160
   clear A160
   replace H := Option.bind_eq_some_iff.mp H
   obtain ⟨t160, A170, H⟩ := H
   replace H : (if (t158 != t160) = true then (some false) else (rkeepsHex.l0 k1 a1 (wrap64 (x6_1 + 1)) a0_0 l0_1 l0_2)) = some r := H
   have A17 := Aside0.mk A170
   clear A170
   by_cases c18 : (t158 != t160) = true
   ·
    rw [if_pos c18] at H
    have c18b0 : (t158 != t160) = true := c18
    (try (have c18b1 : decide (t158 = t160) = false := by simpa using c18))
    (try (have c18b2 : (t158 == t160) = false := by simpa using c18))
    (try (have c18b3 : ¬ (t158 = t160) := by simpa using c18))
    clear c18
    obtain rfl := Option.some.inj H
    try go_wp2
    replace BK154 := Aside0.mk (blk_drew BK154.out)
    replace HB := Aside0.mk (below_drew1 HB.out)
    refine start_ (n := 20) (S := fun w' => w'.cell? ⟨gb154, 0, none⟩ = some (.int .i64 a0_0) ∧ w'.cell? ⟨gb154, 1, none⟩ = some (.slice A0_1 l0_1.length c0_1) ∧ w'.cell? ⟨gb154, 2, none⟩ = some (.slice A0_2 l0_2.length c0_2)) (ds := []) (m_ 20 0) (by kernel_rfl) rfl rfl ⟨(blk_cell BK154.out 0).trans rfl, (blk_cell BK154.out 1).trans rfl, (blk_cell BK154.out 2).trans rfl⟩ (fun hHeld => ?_); refine with_tabW rkeepsHex.tab7 rkeepsHex.bits7 (fun HT_ HW_ => ?_)
    generalize wr.drew = w19 at BK154 HB hHeld ⊢
    refine pq_ 1 (some 56) (m_ 20 2) (h := ?_)
    refine pq_ 4 (some 59) (m_ 20 18) (h := ?_)
    refine pq_ 5 (some 60) (m_ 20 50) (h := ?_)
    refine tq3_ 0 (some 55) (m_ 20 51) (h := ?_)
    refine tq3_ 3 (some 58) (m_ 20 59) (h := ?_)
    refine one_ (i := 2) (N := some 57) (m_ 20 63) rfl rfl (one_of HT_.out (by kernel_rfl)) (by decide) (fun K hK => ?_)
    refine goes_ Tryd.func35 (by kernel_rfl) rfl #[.agg #[.int .i64 a0_0, .slice A0_1 l0_1.length c0_1, .slice A0_2 l0_2.length c0_2], .int .i64 0, .bool false, .int .i64 x6_1] (by rfl) rfl rfl ar_ ?_
    with_reducible refine (honeycombref05_Next.calls k1 a0_0 _ _ l0_1 _ _ l0_2 0 false x6_1 t155 _ ?side1 ?side2 ?side3 ?side4 A7.out).mono ?_
    (case side1 => repeat (first | exact (Kd.C_below HR0_1.out HB.out) | (with_reducible refine Kd.C_alloc ?_ _) | (with_reducible refine Kd.C_drewN ?_ _) | (with_reducible refine Kd.C_drew ?_)))
    (case side2 => exact HC0_1.out)
    (case side3 => repeat (first | exact (Kd.C_below HR0_2.out HB.out) | (with_reducible refine Kd.C_alloc ?_ _) | (with_reducible refine Kd.C_drewN ?_ _) | (with_reducible refine Kd.C_drew ?_)))
    (case side4 => exact HC0_2.out)
    rintro e w20 ⟨rfl, hb⟩
    refine ⟨_, rfl, ?_⟩
    replace BK154 := bb_ BK154.out hb
    replace HB := Aside0.mk (below_step (hg_ GE154.out) hb)
    (try clear hb)
    (try clear hb2)
    (try clear hk)
    (try clear hi)
    refine hK.out _ _ ⟨(blk_cell BK154.out 0).trans rfl, (blk_cell BK154.out 1).trans rfl, (blk_cell BK154.out 2).trans rfl⟩ (fun hHeld => ?_)
    clear hK K
    refine norm_ (a' := ?_) ?_ ?_
    rotate_left
    ·
     show Act.put _ (some 57) _ = _
     simp only [puts_]
     rfl
    refine one_ (i := 6) (N := some 61) (m_ 20 127) rfl rfl (one_of HT_.out (by kernel_rfl)) (by decide) (fun K hK => ?_)
    refine goes_ Tryd.func52 (by kernel_rfl) rfl #[.int .i64 a1, .int .i64 x6_1] (by rfl) rfl rfl ar_ ?_
    with_reducible refine (honeycombref07_turned.calls k1 a1 x6_1 t156 _ A8.out).mono ?_
    rintro e w21 ⟨rfl, hb⟩
    refine ⟨_, rfl, ?_⟩
    replace BK154 := bb_ BK154.out hb
    replace HB := Aside0.mk (below_step (hg_ GE154.out) hb)
    (try clear hb)
    (try clear hb2)
    (try clear hk)
    (try clear hi)
    refine hK.out _ _ ⟨(blk_cell BK154.out 0).trans rfl, (blk_cell BK154.out 1).trans rfl, (blk_cell BK154.out 2).trans rfl⟩ (fun hHeld => ?_)
    clear hK K
    refine norm_ (a' := ?_) ?_ ?_
    rotate_left
    ·
     show Act.put _ (some 61) _ = _
     simp only [puts_]
     rfl
    refine one_ (i := 7) (N := some 62) (m_ 20 255) rfl rfl (one_of HT_.out (by kernel_rfl)) (by decide) (fun K hK => ?_)
    refine goes_ Tryd.func35 (by kernel_rfl) rfl #[.agg #[.int .i64 a0_0, .slice A0_1 l0_1.length c0_1, .slice A0_2 l0_2.length c0_2], .int .i64 0, .bool false, .int .i64 t156] (by rfl) rfl rfl ar_ ?_
    with_reducible refine (honeycombref05_Next.calls k1 a0_0 _ _ l0_1 _ _ l0_2 0 false t156 t157 _ ?side1 ?side2 ?side3 ?side4 A9.out).mono ?_
    (case side1 => repeat (first | exact (Kd.C_below HR0_1.out HB.out) | (with_reducible refine Kd.C_alloc ?_ _) | (with_reducible refine Kd.C_drewN ?_ _) | (with_reducible refine Kd.C_drew ?_)))
    (case side2 => exact HC0_1.out)
    (case side3 => repeat (first | exact (Kd.C_below HR0_2.out HB.out) | (with_reducible refine Kd.C_alloc ?_ _) | (with_reducible refine Kd.C_drewN ?_ _) | (with_reducible refine Kd.C_drew ?_)))
    (case side4 => exact HC0_2.out)
    rintro e w22 ⟨rfl, hb⟩
    refine ⟨_, rfl, ?_⟩
    replace BK154 := bb_ BK154.out hb
    replace HB := Aside0.mk (below_step (hg_ GE154.out) hb)
    (try clear hb)
    (try clear hb2)
    (try clear hk)
    (try clear hi)
    refine hK.out _ _ ⟨(blk_cell BK154.out 0).trans rfl, (blk_cell BK154.out 1).trans rfl, (blk_cell BK154.out 2).trans rfl⟩ (fun hHeld => ?_)
    clear hK K
    refine norm_ (a' := ?_) ?_ ?_
    rotate_left
    ·
     show Act.put _ (some 62) _ = _
     simp only [puts_]
     rfl
    refine pq_ 8 (some 63) (m_ 20 511) (h := ?_)
    refine pq_ 9 (some 64) (m_ 20 1023) (h := ?_)
    refine pq_ 11 (some 66) (m_ 20 3071) (h := ?_)
    refine pq_ 14 (some 69) (m_ 20 19455) (h := ?_)
    refine pq_ 15 (some 70) (m_ 20 52223) (h := ?_)
    refine tq3_ 10 (some 65) (m_ 20 53247) (h := ?_)
    refine tq3_ 13 (some 68) (m_ 20 61439) (h := ?_)
    refine one_ (i := 12) (N := some 67) (m_ 20 65535) rfl rfl (one_of HT_.out (by kernel_rfl)) (by decide) (fun K hK => ?_)
    refine goes_ Tryd.func35 (by kernel_rfl) rfl #[.agg #[.int .i64 a0_0, .slice A0_1 l0_1.length c0_1, .slice A0_2 l0_2.length c0_2], .int .i64 0, .bool true, .int .i64 x6_1] (by rfl) rfl rfl ar_ ?_
    with_reducible refine (honeycombref05_Next.calls k1 a0_0 _ _ l0_1 _ _ l0_2 0 true x6_1 t158 _ ?side1 ?side2 ?side3 ?side4 A15.out).mono ?_
    (case side1 => repeat (first | exact (Kd.C_below HR0_1.out HB.out) | (with_reducible refine Kd.C_alloc ?_ _) | (with_reducible refine Kd.C_drewN ?_ _) | (with_reducible refine Kd.C_drew ?_)))
    (case side2 => exact HC0_1.out)
    (case side3 => repeat (first | exact (Kd.C_below HR0_2.out HB.out) | (with_reducible refine Kd.C_alloc ?_ _) | (with_reducible refine Kd.C_drewN ?_ _) | (with_reducible refine Kd.C_drew ?_)))
    (case side4 => exact HC0_2.out)
    rintro e w23 ⟨rfl, hb⟩
    refine ⟨_, rfl, ?_⟩
    replace BK154 := bb_ BK154.out hb
    replace HB := Aside0.mk (below_step (hg_ GE154.out) hb)
    (try clear hb)
    (try clear hb2)
    (try clear hk)
    (try clear hi)
    refine hK.out _ _ ⟨(blk_cell BK154.out 0).trans rfl, (blk_cell BK154.out 1).trans rfl, (blk_cell BK154.out 2).trans rfl⟩ (fun hHeld => ?_)
    clear hK K
    refine norm_ (a' := ?_) ?_ ?_
    rotate_left
    ·
     show Act.put _ (some 67) _ = _
     simp only [puts_]
     rfl
    refine one_ (i := 16) (N := some 71) (m_ 20 131071) rfl rfl (one_of HT_.out (by kernel_rfl)) (by decide) (fun K hK => ?_)
    refine goes_ Tryd.func52 (by kernel_rfl) rfl #[.int .i64 a1, .int .i64 x6_1] (by rfl) rfl rfl ar_ ?_
    with_reducible refine (honeycombref07_turned.calls k1 a1 x6_1 t159 _ A16.out).mono ?_
    rintro e w24 ⟨rfl, hb⟩
    refine ⟨_, rfl, ?_⟩
    replace BK154 := bb_ BK154.out hb
    replace HB := Aside0.mk (below_step (hg_ GE154.out) hb)
    (try clear hb)
    (try clear hb2)
    (try clear hk)
    (try clear hi)
    refine hK.out _ _ ⟨(blk_cell BK154.out 0).trans rfl, (blk_cell BK154.out 1).trans rfl, (blk_cell BK154.out 2).trans rfl⟩ (fun hHeld => ?_)
    clear hK K
    refine norm_ (a' := ?_) ?_ ?_
    rotate_left
    ·
     show Act.put _ (some 71) _ = _
     simp only [puts_]
     rfl
    refine one_ (i := 17) (N := some 72) (m_ 20 262143) rfl rfl (one_of HT_.out (by kernel_rfl)) (by decide) (fun K hK => ?_)
    refine goes_ Tryd.func35 (by kernel_rfl) rfl #[.agg #[.int .i64 a0_0, .slice A0_1 l0_1.length c0_1, .slice A0_2 l0_2.length c0_2], .int .i64 0, .bool true, .int .i64 t159] (by rfl) rfl rfl ar_ ?_
    with_reducible refine (honeycombref05_Next.calls k1 a0_0 _ _ l0_1 _ _ l0_2 0 true t159 t160 _ ?side1 ?side2 ?side3 ?side4 A17.out).mono ?_
    (case side1 => repeat (first | exact (Kd.C_below HR0_1.out HB.out) | (with_reducible refine Kd.C_alloc ?_ _) | (with_reducible refine Kd.C_drewN ?_ _) | (with_reducible refine Kd.C_drew ?_)))
    (case side2 => exact HC0_1.out)
    (case side3 => repeat (first | exact (Kd.C_below HR0_2.out HB.out) | (with_reducible refine Kd.C_alloc ?_ _) | (with_reducible refine Kd.C_drewN ?_ _) | (with_reducible refine Kd.C_drew ?_)))
    (case side4 => exact HC0_2.out)
    rintro e w25 ⟨rfl, hb⟩
    refine ⟨_, rfl, ?_⟩
    replace BK154 := bb_ BK154.out hb
    replace HB := Aside0.mk (below_step (hg_ GE154.out) hb)
    (try clear hb)
    (try clear hb2)
    (try clear hk)
    (try clear hi)
    refine hK.out _ _ ⟨(blk_cell BK154.out 0).trans rfl, (blk_cell BK154.out 1).trans rfl, (blk_cell BK154.out 2).trans rfl⟩ (fun hHeld => ?_)
    clear hK K
    refine norm_ (a' := ?_) ?_ ?_
    rotate_left
    ·
     show Act.put _ (some 72) _ = _
     simp only [puts_]
     rfl
    refine pq_ 18 (some 73) (m_ 20 524287) (h := ?_)
    refine pq_ 19 (some 74) (m_ 20 1048575) (h := ?_)
    refine done_ (done_of HT_.out (by kernel_rfl)) ?_
    try go_wp2
    go_ret
    exact ⟨er_, hg_ GE154.out⟩
   rw [if_neg c18] at H
   have c18b0 : (t158 != t160) = false := by simpa using c18
   (try (have c18b1 : decide (t158 = t160) = true := by simpa using c18))
   (try (have c18b2 : (t158 == t160) = true := by simpa using c18))
   clear c18
   have H' := Aside0.mk H
   clear H
   try go_wp2
   replace BK154 := Aside0.mk (blk_drew BK154.out)
   replace HB := Aside0.mk (below_drew1 HB.out)
   refine start_ (n := 20) (S := fun w' => w'.cell? ⟨gb154, 0, none⟩ = some (.int .i64 a0_0) ∧ w'.cell? ⟨gb154, 1, none⟩ = some (.slice A0_1 l0_1.length c0_1) ∧ w'.cell? ⟨gb154, 2, none⟩ = some (.slice A0_2 l0_2.length c0_2)) (ds := []) (m_ 20 0) (by kernel_rfl) rfl rfl ⟨(blk_cell BK154.out 0).trans rfl, (blk_cell BK154.out 1).trans rfl, (blk_cell BK154.out 2).trans rfl⟩ (fun hHeld => ?_); refine with_tabW rkeepsHex.tab7 rkeepsHex.bits7 (fun HT_ HW_ => ?_)
   generalize wr.drew = w26 at BK154 HB hHeld ⊢
   refine pq_ 1 (some 56) (m_ 20 2) (h := ?_)
   refine pq_ 4 (some 59) (m_ 20 18) (h := ?_)
   refine pq_ 5 (some 60) (m_ 20 50) (h := ?_)
   refine tq3_ 0 (some 55) (m_ 20 51) (h := ?_)
   refine tq3_ 3 (some 58) (m_ 20 59) (h := ?_)
   refine one_ (i := 2) (N := some 57) (m_ 20 63) rfl rfl (one_of HT_.out (by kernel_rfl)) (by decide) (fun K hK => ?_)
   refine goes_ Tryd.func35 (by kernel_rfl) rfl #[.agg #[.int .i64 a0_0, .slice A0_1 l0_1.length c0_1, .slice A0_2 l0_2.length c0_2], .int .i64 0, .bool false, .int .i64 x6_1] (by rfl) rfl rfl ar_ ?_
   with_reducible refine (honeycombref05_Next.calls k1 a0_0 _ _ l0_1 _ _ l0_2 0 false x6_1 t155 _ ?side1 ?side2 ?side3 ?side4 A7.out).mono ?_
   (case side1 => repeat (first | exact (Kd.C_below HR0_1.out HB.out) | (with_reducible refine Kd.C_alloc ?_ _) | (with_reducible refine Kd.C_drewN ?_ _) | (with_reducible refine Kd.C_drew ?_)))
   (case side2 => exact HC0_1.out)
   (case side3 => repeat (first | exact (Kd.C_below HR0_2.out HB.out) | (with_reducible refine Kd.C_alloc ?_ _) | (with_reducible refine Kd.C_drewN ?_ _) | (with_reducible refine Kd.C_drew ?_)))
   (case side4 => exact HC0_2.out)
   rintro e w27 ⟨rfl, hb⟩
   refine ⟨_, rfl, ?_⟩
   replace BK154 := bb_ BK154.out hb
   replace HB := Aside0.mk (below_step (hg_ GE154.out) hb)
   (try clear hb)
   (try clear hb2)
   (try clear hk)
   (try clear hi)
   refine hK.out _ _ ⟨(blk_cell BK154.out 0).trans rfl, (blk_cell BK154.out 1).trans rfl, (blk_cell BK154.out 2).trans rfl⟩ (fun hHeld => ?_)
   clear hK K
   refine norm_ (a' := ?_) ?_ ?_
   rotate_left
   ·
    show Act.put _ (some 57) _ = _
    simp only [puts_]
    rfl
   refine one_ (i := 6) (N := some 61) (m_ 20 127) rfl rfl (one_of HT_.out (by kernel_rfl)) (by decide) (fun K hK => ?_)
   refine goes_ Tryd.func52 (by kernel_rfl) rfl #[.int .i64 a1, .int .i64 x6_1] (by rfl) rfl rfl ar_ ?_
   with_reducible refine (honeycombref07_turned.calls k1 a1 x6_1 t156 _ A8.out).mono ?_
   rintro e w28 ⟨rfl, hb⟩
   refine ⟨_, rfl, ?_⟩
   replace BK154 := bb_ BK154.out hb
   replace HB := Aside0.mk (below_step (hg_ GE154.out) hb)
   (try clear hb)
   (try clear hb2)
   (try clear hk)
   (try clear hi)
   refine hK.out _ _ ⟨(blk_cell BK154.out 0).trans rfl, (blk_cell BK154.out 1).trans rfl, (blk_cell BK154.out 2).trans rfl⟩ (fun hHeld => ?_)
   clear hK K
   refine norm_ (a' := ?_) ?_ ?_
   rotate_left
   ·
    show Act.put _ (some 61) _ = _
    simp only [puts_]
    rfl
   refine one_ (i := 7) (N := some 62) (m_ 20 255) rfl rfl (one_of HT_.out (by kernel_rfl)) (by decide) (fun K hK => ?_)
   refine goes_ Tryd.func35 (by kernel_rfl) rfl #[.agg #[.int .i64 a0_0, .slice A0_1 l0_1.length c0_1, .slice A0_2 l0_2.length c0_2], .int .i64 0, .bool false, .int .i64 t156] (by rfl) rfl rfl ar_ ?_
   with_reducible refine (honeycombref05_Next.calls k1 a0_0 _ _ l0_1 _ _ l0_2 0 false t156 t157 _ ?side1 ?side2 ?side3 ?side4 A9.out).mono ?_
   (case side1 => repeat (first | exact (Kd.C_below HR0_1.out HB.out) | (with_reducible refine Kd.C_alloc ?_ _) | (with_reducible refine Kd.C_drewN ?_ _) | (with_reducible refine Kd.C_drew ?_)))
   (case side2 => exact HC0_1.out)
   (case side3 => repeat (first | exact (Kd.C_below HR0_2.out HB.out) | (with_reducible refine Kd.C_alloc ?_ _) | (with_reducible refine Kd.C_drewN ?_ _) | (with_reducible refine Kd.C_drew ?_)))
   (case side4 => exact HC0_2.out)
   rintro e w29 ⟨rfl, hb⟩
   refine ⟨_, rfl, ?_⟩
   replace BK154 := bb_ BK154.out hb
   replace HB := Aside0.mk (below_step (hg_ GE154.out) hb)
   (try clear hb)
   (try clear hb2)
   (try clear hk)
   (try clear hi)
   refine hK.out _ _ ⟨(blk_cell BK154.out 0).trans rfl, (blk_cell BK154.out 1).trans rfl, (blk_cell BK154.out 2).trans rfl⟩ (fun hHeld => ?_)
   clear hK K
   refine norm_ (a' := ?_) ?_ ?_
   rotate_left
   ·
    show Act.put _ (some 62) _ = _
    simp only [puts_]
    rfl
   refine pq_ 8 (some 63) (m_ 20 511) (h := ?_)
   refine pq_ 9 (some 64) (m_ 20 1023) (h := ?_)
   refine pq_ 11 (some 66) (m_ 20 3071) (h := ?_)
   refine pq_ 14 (some 69) (m_ 20 19455) (h := ?_)
   refine pq_ 15 (some 70) (m_ 20 52223) (h := ?_)
   refine tq3_ 10 (some 65) (m_ 20 53247) (h := ?_)
   refine tq3_ 13 (some 68) (m_ 20 61439) (h := ?_)
   refine one_ (i := 12) (N := some 67) (m_ 20 65535) rfl rfl (one_of HT_.out (by kernel_rfl)) (by decide) (fun K hK => ?_)
   refine goes_ Tryd.func35 (by kernel_rfl) rfl #[.agg #[.int .i64 a0_0, .slice A0_1 l0_1.length c0_1, .slice A0_2 l0_2.length c0_2], .int .i64 0, .bool true, .int .i64 x6_1] (by rfl) rfl rfl ar_ ?_
   with_reducible refine (honeycombref05_Next.calls k1 a0_0 _ _ l0_1 _ _ l0_2 0 true x6_1 t158 _ ?side1 ?side2 ?side3 ?side4 A15.out).mono ?_
   (case side1 => repeat (first | exact (Kd.C_below HR0_1.out HB.out) | (with_reducible refine Kd.C_alloc ?_ _) | (with_reducible refine Kd.C_drewN ?_ _) | (with_reducible refine Kd.C_drew ?_)))
   (case side2 => exact HC0_1.out)
   (case side3 => repeat (first | exact (Kd.C_below HR0_2.out HB.out) | (with_reducible refine Kd.C_alloc ?_ _) | (with_reducible refine Kd.C_drewN ?_ _) | (with_reducible refine Kd.C_drew ?_)))
   (case side4 => exact HC0_2.out)
   rintro e w30 ⟨rfl, hb⟩
   refine ⟨_, rfl, ?_⟩
   replace BK154 := bb_ BK154.out hb
   replace HB := Aside0.mk (below_step (hg_ GE154.out) hb)
   (try clear hb)
   (try clear hb2)
   (try clear hk)
   (try clear hi)
   refine hK.out _ _ ⟨(blk_cell BK154.out 0).trans rfl, (blk_cell BK154.out 1).trans rfl, (blk_cell BK154.out 2).trans rfl⟩ (fun hHeld => ?_)
   clear hK K
   refine norm_ (a' := ?_) ?_ ?_
   rotate_left
   ·
    show Act.put _ (some 67) _ = _
    simp only [puts_]
    rfl
   refine one_ (i := 16) (N := some 71) (m_ 20 131071) rfl rfl (one_of HT_.out (by kernel_rfl)) (by decide) (fun K hK => ?_)
   refine goes_ Tryd.func52 (by kernel_rfl) rfl #[.int .i64 a1, .int .i64 x6_1] (by rfl) rfl rfl ar_ ?_
   with_reducible refine (honeycombref07_turned.calls k1 a1 x6_1 t159 _ A16.out).mono ?_
   rintro e w31 ⟨rfl, hb⟩
   refine ⟨_, rfl, ?_⟩
   replace BK154 := bb_ BK154.out hb
   replace HB := Aside0.mk (below_step (hg_ GE154.out) hb)
   (try clear hb)
   (try clear hb2)
   (try clear hk)
   (try clear hi)
   refine hK.out _ _ ⟨(blk_cell BK154.out 0).trans rfl, (blk_cell BK154.out 1).trans rfl, (blk_cell BK154.out 2).trans rfl⟩ (fun hHeld => ?_)
   clear hK K
   refine norm_ (a' := ?_) ?_ ?_
   rotate_left
   ·
    show Act.put _ (some 71) _ = _
    simp only [puts_]
    rfl
   refine one_ (i := 17) (N := some 72) (m_ 20 262143) rfl rfl (one_of HT_.out (by kernel_rfl)) (by decide) (fun K hK => ?_)
   refine goes_ Tryd.func35 (by kernel_rfl) rfl #[.agg #[.int .i64 a0_0, .slice A0_1 l0_1.length c0_1, .slice A0_2 l0_2.length c0_2], .int .i64 0, .bool true, .int .i64 t159] (by rfl) rfl rfl ar_ ?_
   with_reducible refine (honeycombref05_Next.calls k1 a0_0 _ _ l0_1 _ _ l0_2 0 true t159 t160 _ ?side1 ?side2 ?side3 ?side4 A17.out).mono ?_
   (case side1 => repeat (first | exact (Kd.C_below HR0_1.out HB.out) | (with_reducible refine Kd.C_alloc ?_ _) | (with_reducible refine Kd.C_drewN ?_ _) | (with_reducible refine Kd.C_drew ?_)))
   (case side2 => exact HC0_1.out)
   (case side3 => repeat (first | exact (Kd.C_below HR0_2.out HB.out) | (with_reducible refine Kd.C_alloc ?_ _) | (with_reducible refine Kd.C_drewN ?_ _) | (with_reducible refine Kd.C_drew ?_)))
   (case side4 => exact HC0_2.out)
   rintro e w32 ⟨rfl, hb⟩
   refine ⟨_, rfl, ?_⟩
   replace BK154 := bb_ BK154.out hb
   replace HB := Aside0.mk (below_step (hg_ GE154.out) hb)
   (try clear hb)
   (try clear hb2)
   (try clear hk)
   (try clear hi)
   refine hK.out _ _ ⟨(blk_cell BK154.out 0).trans rfl, (blk_cell BK154.out 1).trans rfl, (blk_cell BK154.out 2).trans rfl⟩ (fun hHeld => ?_)
   clear hK K
   refine norm_ (a' := ?_) ?_ ?_
   rotate_left
   ·
    show Act.put _ (some 72) _ = _
    simp only [puts_]
    rfl
   refine pq_ 18 (some 73) (m_ 20 524287) (h := ?_)
   refine pq_ 19 (some 74) (m_ 20 1048575) (h := ?_)
   refine done_ (done_of HT_.out (by kernel_rfl)) ?_
   try go_wp2
   go_roundg k1
   case measure => have := HK1.out; omega
   case rel => exact ⟨(wrap64 (x6_1 + 1)), rs_, H', ⟨by have := HK1.out; omega⟩, ⟨bk_ BK154.out⟩, ⟨by repeat (first | (with_reducible first | exact HB.out | apply ba_ | apply bn_ | apply bd_ | refine below_set ?_ GE154.out) | exact HB.out)⟩⟩
end H
namespace H
theorem two_at {w : World} {A : Option Addr} {x y : Int} (h : Kd.C (Kd.int .u64) w A 2 [x, y]) : ∃ b o : Nat, A = some ⟨b, o, none⟩ ∧ w.cell? ⟨b, o, none⟩ = some (.int .u64 x) ∧ w.cell? ⟨b, o + 1, none⟩ = some (.int .u64 y) := by
 obtain ⟨ad0, x0, rfl, _, hx0, hy0⟩ := Kd.C_get h 0 0 (by omega) (by simp)
 obtain ⟨ad1, x1, e1, _, hx1, hy1⟩ := Kd.C_get h 0 1 (by omega) (by simp)
 injection e1 with e1
 subst e1
 have q0 := hy0 0 (.int .u64 x) (by rw [hx0]; rfl)
 have q1 := hy1 0 (.int .u64 y) (by rw [hx1]; rfl)
 obtain ⟨b, o, sp⟩ := ad0
 have hsp : sp = none := by
  cases sp with
  | none => rfl
  | some z => exfalso; simp only [World.cell?, Addr.add] at q0; split at q0 <;> simp at q0
 subst hsp
 exact ⟨b, o, rfl, q0, q1⟩
theorem twelve_ (o : Int) (h0 : 0 ≤ o) (h1 : o < 12) : o = 0 ∨ o = 1 ∨ o = 2 ∨ o = 3 ∨ o = 4 ∨ o = 5 ∨ o = 6 ∨ o = 7 ∨ o = 8 ∨ o = 9 ∨ o = 10 ∨ o = 11 := by omega
theorem rkeeps_tri (L o b0 b1 s0 s1 : Int) (A1 A2 : Option Addr) (c1 c2 : Nat) (w : World) (hB : Kd.C (Kd.int .u64) w A1 2 [b0, b1]) (hS : Kd.C (Kd.int .u64) w A2 2 [s0, s1]) (hL : 1 < L) (h0 : 0 ≤ o) (h1 : o < 12) :
    Calls Tryd.prog 42 #[.agg #[.int .i64 L, .slice A1 2 c1, .slice A2 2 c2], .int .i64 o] w fun e w' => e = .returned (.bool (decide (o % 2 = 0) || (b0 == b1 && s0 == s1))) ∧ Below w.heap.size w w' := by
 obtain ⟨g1, o1, rfl, p0, p1⟩ := two_at hB
 obtain ⟨g2, o2, rfl, q0, q1⟩ := two_at hS
 clear hB hS
 have hb1 : Below w.heap.size w (w.alloc (.cells #[.int .i64 L, .slice (some ⟨g1, o1, none⟩) 2 c1, .slice (some ⟨g2, o2, none⟩) 2 c2] 55 (0, 0))) := below_alloc (Below.refl _ _) _
 have kT := blk_new w (.cells #[.int .i64 L, .slice (some ⟨g1, o1, none⟩) 2 c1, .slice (some ⟨g2, o2, none⟩) 2 c2] 55 (0, 0))
 replace p0 := pw_cell_below hb1 p0
 replace p1 := pw_cell_below hb1 p1
 replace q0 := pw_cell_below hb1 q0
 replace q1 := pw_cell_below hb1 q1
 have HB := Aside0.mk hb1
 have k0 := blk_cell kT 0
 have k1 := blk_cell kT 1
 have k2 := blk_cell kT 2
 simp only [List.getElem?_toArray, List.getElem?_cons_zero, List.getElem?_cons_succ] at k0 k1 k2
 have hLd : decide (1 < L) = true := decide_eq_true hL
 clear hb1 kT
 have hbt : (b0 == b1) = true ∨ (b0 == b1) = false := by cases (b0 == b1) <;> simp
 have hst : (s0 == s1) = true ∨ (s0 == s1) = false := by cases (s0 == s1) <;> simp
 rcases twelve_ o h0 h1 with rfl | rfl | rfl | rfl | rfl | rfl | rfl | rfl | rfl | rfl | rfl | rfl
 all_goals first
  | (go_enter Tryd.func42, Tryd.ntmps42; go_upto_region 3 with (fail); go_region; go_wp2; go_ret; exact ⟨by simp, (by with_reducible repeat (first | apply below_alloc | apply pw_below_drewN | apply below_drew | refine bset ?_ _ _ (by omega) _ | exact Below.refl _ _))⟩)
  | (rcases hbt with hbt | hbt <;> rcases hst with hst | hst <;> (go_enter Tryd.func42, Tryd.ntmps42; go_upto_region 3 with (fail); go_region; go_wp2; go_ret; exact ⟨by simp [hbt, hst], (by with_reducible repeat (first | apply below_alloc | apply pw_below_drewN | apply below_drew | refine bset ?_ _ _ (by omega) _ | exact Below.refl _ _))⟩))
def XRKeeps.f (k : Nat) (a0_0 : Int) (l0_1 : List Int) (l0_2 : List Int) (a1 : Int) : Option (Bool) := if a0_0 > 1 then (if l0_1.length = 2 ∧ l0_2.length = 2 ∧ 0 ≤ a1 ∧ a1 < 12 then some (decide (a1 % 2 = 0) || (rd l0_1 0 == rd l0_1 1 && rd l0_2 0 == rd l0_2 1)) else none) else rkeepsHex.l0 k a1 0 a0_0 l0_1 l0_2
theorem len_two {l : List Int} (h : l.length = 2) : l = [rd l 0, rd l 1] := by
 match l, h with
 | [x, y], _ => rfl
theorem XRKeeps.calls (k : Nat) (a0_0 : Int) (A0_1 : Option Addr) (c0_1 : Nat) (l0_1 : List Int) (A0_2 : Option Addr) (c0_2 : Nat) (l0_2 : List Int) (a1 : Int) (r : Bool) (w : World) (hr0_1 : Kd.C (Kd.int .u64) w A0_1 l0_1.length l0_1) (hc0_1 : l0_1.length ≤ c0_1) (hr0_2 : Kd.C (Kd.int .u64) w A0_2 l0_2.length l0_2) (hc0_2 : l0_2.length ≤ c0_2) (h : XRKeeps.f k a0_0 l0_1 l0_2 a1 = some r) :
    Calls Tryd.prog 42 #[.agg #[.int .i64 a0_0, .slice A0_1 l0_1.length c0_1, .slice A0_2 l0_2.length c0_2], .int .i64 a1] w fun e w' => e = .returned (.bool r) ∧ Below w.heap.size w w' := by
 unfold XRKeeps.f at h
 by_cases hL : a0_0 > 1
 ·rw [if_pos hL] at h
  by_cases hc : l0_1.length = 2 ∧ l0_2.length = 2 ∧ 0 ≤ a1 ∧ a1 < 12
  ·rw [if_pos hc] at h
   obtain rfl := Option.some.inj h
   obtain ⟨q1, q2, h0, h12⟩ := hc
   obtain ⟨b0, hb0⟩ : ∃ x, x = rd l0_1 0 := ⟨_, rfl⟩
   obtain ⟨b1, hb1⟩ : ∃ x, x = rd l0_1 1 := ⟨_, rfl⟩
   obtain ⟨s0, hs0⟩ : ∃ x, x = rd l0_2 0 := ⟨_, rfl⟩
   obtain ⟨s1, hs1⟩ : ∃ x, x = rd l0_2 1 := ⟨_, rfl⟩
   have e1 := len_two q1
   have e2 := len_two q2
   rw [← hb0, ← hb1] at e1 ⊢
   rw [← hs0, ← hs1] at e2 ⊢
   clear hb0 hb1 hs0 hs1
   subst e1
   subst e2
   exact rkeeps_tri a0_0 a1 b0 b1 s0 s1 A0_1 A0_2 c0_1 c0_2 w hr0_1 hr0_2 hL h0 h12
  ·rw [if_neg hc] at h
   cases h
 ·rw [if_neg hL] at h
  exact rkeepsHex.calls k a0_0 A0_1 c0_1 l0_1 A0_2 c0_2 l0_2 a1 r w hr0_1 hc0_1 hr0_2 hc0_2 (by unfold rkeepsHex.f; rw [if_neg hL]; exact h)
end H
section
open H
def badW (b s : Int) (o r : Nat) (live : Bool) : Prop := (nxB (if live = true then s else b) r != nxB (if live = true then s else b) (brT o r)) = true
theorem badW_at {b s : Int} {o r : Nat} {live : Bool} (h : badW b s o r live) : badAt b s o r = true := by
 unfold badW at h
 unfold badAt
 rw [Bool.or_eq_true]
 cases live
 ·exact .inl h
 ·exact .inr h
section
variable (b0 b1 s0 s1 : Int)
theorem hexw_l2 (k o r : Nat) (ho : o < 12) (hr : r < 64) :
    (badAt b0 s0 o r = true → ∃ live, badW b0 s0 o r live ∧ iso_hexes.l2 (k + 3) o r o r [false, true] 2 0 1 b0 b1 s0 s1 = some (ofL (patL (r : Int) live 6), (o : Int), true)) ∧
    (badAt b0 s0 o r = false → iso_hexes.l2 (k + 3) o r o r [false, true] 2 0 1 b0 b1 s0 s1 = iso_hexes.l1 k o o ((r + 1 : Nat) : Int) 1 b0 b1 s0 s1) := by
 have hb := brT_lt o r ho hr
 have hbr := br_f o r ho hr
 have n0 := next_f b0 b1 s0 s1 false r hr
 have n1 := next_f b0 b1 s0 s1 true r hr
 have m0 := next_f b0 b1 s0 s1 false (brT o r) hb
 have m1 := next_f b0 b1 s0 s1 true (brT o r) hb
 have r0 : rdOf false [false, true] 0 = false := rfl
 have r1 : rdOf false [false, true] 1 = true := rfl
 have w0 : wrap64 (0 + 1) = 1 := by decide +kernel
 have w1 : wrap64 (1 + 1) = 2 := by decide +kernel
 have wr := wN r (by omega)
 have hbad : badAt b0 s0 o r = ((nxB b0 r != nxB b0 (brT o r)) || (nxB s0 r != nxB s0 (brT o r))) := rfl
 have hw0 : badW b0 s0 o r false = ((nxB b0 r != nxB b0 (brT o r)) = true) := rfl
 have hw1 : badW b0 s0 o r true = ((nxB s0 r != nxB s0 (brT o r)) = true) := rfl
 rw [hbad]
 simp only [↓reduceIte, Bool.false_eq_true] at n0 n1 m0 m1
 generalize nxB b0 r = x0 at n0 hw0 ⊢
 generalize nxB b0 (brT o r) = x1 at m0 hw0 ⊢
 generalize nxB s0 r = y0 at n1 hw1 ⊢
 generalize nxB s0 (brT o r) = y1 at m1 hw1 ⊢
 have e : ∀ k, iso_hexes.l2 (k + 3) o r o r [false, true] 2 0 1 b0 b1 s0 s1 = if (x0 != x1) = true then some (ofL (patL (r : Int) false 6), (o : Int), true) else if (y0 != y1) = true then some (ofL (patL (r : Int) true 6), (o : Int), true) else iso_hexes.l1 k o o ((r + 1 : Nat) : Int) 1 b0 b1 s0 s1 := by
  intro k
  rw [show k + 3 = (k + 2) + 1 from rfl, iso_hexes.l2]
  rw [if_pos (by decide), if_pos (by decide), if_pos (by decide), r0, n0, hbr]
  simp only [Option.bind_some, m0]
  split
  ·rfl
  ·rw [w0, iso_hexes.l2]
   rw [if_pos (by decide), if_pos (by decide), if_pos (by decide), r1, n1, hbr]
   simp only [Option.bind_some, m1]
   split
   ·rfl
   ·rw [w1, iso_hexes.l2, if_neg (by decide), wr]
 rw [e k]
 constructor
 ·intro hb
  rw [Bool.or_eq_true] at hb
  by_cases h0 : (x0 != x1) = true
  ·rw [if_pos h0]
   exact ⟨false, hw0 ▸ h0, rfl⟩
  ·rw [if_neg h0, if_pos (hb.resolve_left h0)]
   exact ⟨true, hw1 ▸ hb.resolve_left h0, rfl⟩
 ·intro hb
  rw [Bool.or_eq_false_iff] at hb
  rw [hb.1, hb.2]
  simp
theorem hexw_l1 (k o : Nat) (ho : o < 12) : ∀ n r : Nat, r + n = 64 →
    ((∃ q, r ≤ q ∧ q < 64 ∧ badAt b0 s0 o q = true) → ∃ q live, q < 64 ∧ badW b0 s0 o q live ∧ iso_hexes.l1 (k + 4 * n + 1) o o (r : Int) 1 b0 b1 s0 s1 = some (ofL (patL (q : Int) live 6), (o : Int), true)) ∧
    ((∀ q, r ≤ q → q < 64 → badAt b0 s0 o q = false) → iso_hexes.l1 (k + 4 * n + 1) o o (r : Int) 1 b0 b1 s0 s1 = iso_hexes.l0 k ((o + 1 : Nat) : Int) 1 b0 b1 s0 s1) := by
 intro n
 induction n with
 | zero =>
  intro r hr
  refine ⟨fun ⟨q, h1, h2, _⟩ => by omega, fun _ => ?_⟩
  rw [iso_hexes.l1, if_neg (by omega), wN o (by omega)]
 | succ n ih =>
  intro r hr
  have hr64 : r < 64 := by omega
  obtain ⟨i1, i2⟩ := ih (r + 1) (by omega)
  obtain ⟨j1, j2⟩ := hexw_l2 b0 b1 s0 s1 (k + 4 * n + 1) o r ho hr64
  have e : iso_hexes.l1 (k + 4 * (n + 1) + 1) o o (r : Int) 1 b0 b1 s0 s1 = iso_hexes.l2 (k + 4 * n + 1 + 3) o r o r [false, true] 2 0 1 b0 b1 s0 s1 := by
   rw [show k + 4 * (n + 1) + 1 = (k + 4 * n + 1 + 3) + 1 by omega, iso_hexes.l1, if_pos (by omega)]
   rfl
  rw [e]
  cases hb : badAt b0 s0 o r with
  | true =>
   refine ⟨fun _ => ?_, fun h => by rw [h r (Nat.le_refl _) hr64] at hb; cases hb⟩
   obtain ⟨live, h1, h2⟩ := j1 hb
   exact ⟨r, live, hr64, h1, h2⟩
  | false =>
   rw [j2 hb]
   refine ⟨fun ⟨q, h1, h2, h3⟩ => i1 ⟨q, ?_, h2, h3⟩, fun h => i2 fun q h1 h2 => h q (by omega) h2⟩
   rcases Nat.eq_or_lt_of_le h1 with rfl | h
   ·rw [hb] at h3; cases h3
   ·omega
theorem hexw_l0 (k : Nat) : ∀ n o : Nat, o + n = 12 →
    (∃ p q live, p < 12 ∧ q < 64 ∧ badW b0 s0 p q live ∧ iso_hexes.l0 (k + 258 * n + 1) (o : Int) 1 b0 b1 s0 s1 = some (ofL (patL (q : Int) live 6), (p : Int), true)) ∨
    (iso_hexes.l0 (k + 258 * n + 1) (o : Int) 1 b0 b1 s0 s1 = some ([], 0, false) ∧ ∀ p : Nat, o ≤ p → p < 12 → ∀ q : Nat, q < 64 → badAt b0 s0 p q = false) := by
 intro n
 induction n with
 | zero =>
  intro o ho
  refine .inr ⟨?_, fun p h1 h2 => by omega⟩
  rw [iso_hexes.l0, if_neg (by omega)]
 | succ n ih =>
  intro o ho
  have h12 : o < 12 := by omega
  obtain ⟨j1, j2⟩ := hexw_l1 b0 b1 s0 s1 (k + 258 * n + 1) o h12 64 0 (by omega)
  have e : iso_hexes.l0 (k + 258 * (n + 1) + 1) (o : Int) 1 b0 b1 s0 s1 = iso_hexes.l1 (k + 258 * n + 1 + 4 * 64 + 1) o o ((0 : Nat) : Int) 1 b0 b1 s0 s1 := by
   rw [show k + 258 * (n + 1) + 1 = (k + 258 * n + 1 + 4 * 64 + 1) + 1 by omega, iso_hexes.l0, if_pos (by omega)]
   rfl
  rw [e]
  by_cases hb : ∃ q, 0 ≤ q ∧ q < 64 ∧ badAt b0 s0 o q = true
  ·obtain ⟨q, live, h1, h2, h3⟩ := j1 hb
   exact .inl ⟨o, q, live, h12, h1, h2, h3⟩
  ·have hnb : ∀ q, 0 ≤ q → q < 64 → badAt b0 s0 o q = false := fun q h1 h2 => by
    cases h : badAt b0 s0 o q with
    | false => rfl
    | true => exact absurd ⟨q, h1, h2, h⟩ hb
   rw [j2 hnb]
   rcases ih (o + 1) (by omega) with h | ⟨h1, h2⟩
   ·exact .inl h
   ·refine .inr ⟨h1, fun p h3 h4 q h5 => ?_⟩
    rcases Nat.eq_or_lt_of_le h3 with rfl | h
    ·exact hnb q (Nat.zero_le _) h5
    ·exact h2 p h h4 q h5
theorem checkw_hex (K : Nat) (hK : 3097 ≤ K) (hc : checkT 1 b0 b1 s0 s1 = none) :
    (∃ p q live, p < 12 ∧ q < 64 ∧ badW b0 s0 p q live ∧ iso_Check.f K 1 b0 b1 s0 s1 = some (ofL (patL (q : Int) live 6), (p : Int), true, none)) ∨
    (iso_Check.f K 1 b0 b1 s0 s1 = some ([], 0, false, none) ∧ ∀ p : Nat, p < 12 → ∀ q : Nat, q < 64 → badAt b0 s0 p q = false) := by
 obtain ⟨k, rfl⟩ : ∃ k, K = k + 3097 := ⟨K - 3097, by omega⟩
 have h := hexw_l0 b0 b1 s0 s1 k 12 0 (by omega)
 have e : ∀ r, iso_hexes.l0 (k + 258 * 12 + 1) ((0 : Nat) : Int) 1 b0 b1 s0 s1 = some r → iso_Check.f (k + 3097) 1 b0 b1 s0 s1 = some (r.1, r.2.1, r.2.2, none) := by
  intro r hr
  unfold iso_Check.f
  rw [show XTCheck.f 1 b0 b1 s0 s1 = some none by unfold XTCheck.f; rw [hc]]
  have hh : iso_hexes.f (k + 3097) 1 b0 b1 s0 s1 = some r := hr
  simp only [Option.bind_some, Option.isNone_none, ↓reduceIte, hh]
 rcases h with ⟨p, q, live, h1, h2, h3, h4⟩ | ⟨h1, h2⟩
 ·exact .inl ⟨p, q, live, h1, h2, h3, e _ h4⟩
 ·exact .inr ⟨e _ h1, fun p hp q hq => h2 p (Nat.zero_le _) hp q hq⟩
end
theorem xnext_is (L : Int) (b0 b1 s0 s1 : Nat) (h : Int) (live : Bool) (n : Int) : XNext.f L b0 b1 s0 s1 h live n = some (nxtV b0 b1 s0 s1 h live n) := rfl
theorem bes_f (L : Int) (hl : L = 2 ∨ L = 3) : XBeside.f L 0 0 0 = some (besL L Z0, none) := by
 rcases hl with rfl | rfl <;> decide +kernel
section
variable (L : Int) (b0 b1 s0 s1 : Nat) (hl : L = 2 ∨ L = 3)
include hl
theorem triw_l1 (k n : Nat) (hn : n ≤ cntT L) (z : Int) :
    (∃ live, nxtV b0 b1 s0 s1 0 live (n : Int) ≠ nxtV b0 b1 s0 s1 1 live (n : Int) ∧ iso_triangles.l1 (k + 3) (besL L Z0) n z n [false, true] 2 0 L b0 b1 s0 s1 = some (ofL (triL L n live), 1, true)) ∨
    ((∀ live, nxtV b0 b1 s0 s1 0 live (n : Int) = nxtV b0 b1 s0 s1 1 live (n : Int)) ∧ iso_triangles.l1 (k + 3) (besL L Z0) n z n [false, true] 2 0 L b0 b1 s0 s1 = iso_triangles.l0 k (besL L Z0) z ((n + 1 : Nat) : Int) L b0 b1 s0 s1) := by
 have r0 : rdOf false [false, true] 0 = false := rfl
 have r1 : rdOf false [false, true] 1 = true := rfl
 have w0 : wrap64 (0 + 1) = 1 := by decide +kernel
 have w1 : wrap64 (1 + 1) = 2 := by decide +kernel
 have hlen := tri_len2 L hl
 have hn12 : cntT L ≤ 12 := by unfold cntT; split <;> omega
 have wr := wN n (by omega)
 have htl : ((besL L Z0).take n).length ≤ 12 := by rw [List.length_take]; omega
 have e : iso_triangles.l1 (k + 3) (besL L Z0) n z n [false, true] 2 0 L b0 b1 s0 s1 = if (nxtV b0 b1 s0 s1 0 false (n : Int) == nxtV b0 b1 s0 s1 1 false (n : Int)) = true then (if (nxtV b0 b1 s0 s1 0 true (n : Int) == nxtV b0 b1 s0 s1 1 true (n : Int)) = true then iso_triangles.l0 k (besL L Z0) z ((n + 1 : Nat) : Int) L b0 b1 s0 s1 else some (ofL (triL L n true), 1, true)) else some (ofL (triL L n false), 1, true) := by
  rw [show k + 3 = (k + 2) + 1 from rfl, iso_triangles.l1]
  rw [if_pos (by decide), if_pos (by decide), if_pos (by decide), r0, xnext_is, xnext_is]
  simp only [Option.bind_some]
  split
  ·rw [w0, show k + 2 = (k + 1) + 1 from rfl, iso_triangles.l1]
   rw [if_pos (by decide), if_pos (by decide), if_pos (by decide), r1, xnext_is, xnext_is]
   simp only [Option.bind_some]
   split
   ·rw [w1, iso_triangles.l1, if_neg (by decide), wr]
   ·rw [if_pos (by omega), if_pos (by omega), Int.toNat_natCast]
    unfold XClone.f XOf.f
    rw [if_pos (by omega)]
    simp only [Option.bind_some, ↓reduceIte]
    rw [if_pos (by omega), if_pos (by rw [List.length_append]; simp; omega)]
    rfl
  ·rw [if_pos (by omega), if_pos (by omega), Int.toNat_natCast]
   unfold XClone.f XOf.f
   rw [if_pos (by omega)]
   simp only [Option.bind_some, Bool.false_eq_true, ↓reduceIte]
   rw [if_pos (by omega)]
   unfold triL
   simp
 rw [e]
 by_cases h0 : (nxtV b0 b1 s0 s1 0 false (n : Int) == nxtV b0 b1 s0 s1 1 false (n : Int)) = true
 ·by_cases h1 : (nxtV b0 b1 s0 s1 0 true (n : Int) == nxtV b0 b1 s0 s1 1 true (n : Int)) = true
  ·rw [if_pos h0, if_pos h1]
   refine .inr ⟨fun live => ?_, rfl⟩
   cases live
   ·exact eq_of_beq h0
   ·exact eq_of_beq h1
  ·rw [if_pos h0, if_neg h1]
   exact .inl ⟨true, fun e => h1 (beq_iff_eq.2 e), rfl⟩
 ·rw [if_neg h0]
  exact .inl ⟨false, fun e => h0 (beq_iff_eq.2 e), rfl⟩
theorem triw_l0 (k : Nat) : ∀ d n : Nat, n + d = cntT L + 1 →
    (∃ q live, q ≤ cntT L ∧ nxtV b0 b1 s0 s1 0 live (q : Int) ≠ nxtV b0 b1 s0 s1 1 live (q : Int) ∧ iso_triangles.l0 (k + 4 * d + 1) (besL L Z0) ((cntT L + 1 : Nat) : Int) n L b0 b1 s0 s1 = some (ofL (triL L q live), 1, true)) ∨
    (iso_triangles.l0 (k + 4 * d + 1) (besL L Z0) ((cntT L + 1 : Nat) : Int) n L b0 b1 s0 s1 = some ([], 0, false) ∧ ∀ q, n ≤ q → q ≤ cntT L → ∀ live, nxtV b0 b1 s0 s1 0 live (q : Int) = nxtV b0 b1 s0 s1 1 live (q : Int)) := by
 intro d
 induction d with
 | zero =>
  intro n hn
  refine .inr ⟨?_, fun q h1 h2 => by omega⟩
  rw [iso_triangles.l0, if_neg (by omega)]
 | succ d ih =>
  intro n hn
  have e : iso_triangles.l0 (k + 4 * (d + 1) + 1) (besL L Z0) ((cntT L + 1 : Nat) : Int) n L b0 b1 s0 s1 = iso_triangles.l1 (k + 4 * d + 1 + 3) (besL L Z0) n ((cntT L + 1 : Nat) : Int) n [false, true] 2 0 L b0 b1 s0 s1 := by
   rw [show k + 4 * (d + 1) + 1 = (k + 4 * d + 1 + 3) + 1 by omega, iso_triangles.l0, if_pos (by omega)]
   rfl
  rw [e]
  rcases triw_l1 L b0 b1 s0 s1 hl (k + 4 * d + 1) n (by omega) ((cntT L + 1 : Nat) : Int) with ⟨live, h1, h2⟩ | ⟨h1, h2⟩
  ·exact .inl ⟨n, live, by omega, h1, h2⟩
  ·rw [h2]
   rcases ih (n + 1) (by omega) with h | ⟨h3, h4⟩
   ·exact .inl h
   ·refine .inr ⟨h3, fun q h5 h6 => ?_⟩
    rcases Nat.eq_or_lt_of_le h5 with rfl | h
    ·exact h1
    ·exact h4 q h h6
theorem checkw_tri (K : Nat) (hK : 100 ≤ K) (hc : checkT L b0 b1 s0 s1 = none) :
    (∃ q live, q ≤ cntT L ∧ nxtV b0 b1 s0 s1 0 live (q : Int) ≠ nxtV b0 b1 s0 s1 1 live (q : Int) ∧ iso_Check.f K L b0 b1 s0 s1 = some (ofL (triL L q live), 1, true, none)) ∨
    (iso_Check.f K L b0 b1 s0 s1 = some ([], 0, false, none) ∧ ∀ q, q ≤ cntT L → ∀ live, nxtV b0 b1 s0 s1 0 live (q : Int) = nxtV b0 b1 s0 s1 1 live (q : Int)) := by
 have hn12 : cntT L ≤ 12 := by unfold cntT; split <;> omega
 obtain ⟨k, rfl⟩ : ∃ k, K = k + 4 * (cntT L + 1) + 1 := ⟨K - (4 * (cntT L + 1) + 1), by omega⟩
 have h := triw_l0 L b0 b1 s0 s1 hl k (cntT L + 1) 0 (by omega)
 have e : ∀ r, iso_triangles.l0 (k + 4 * (cntT L + 1) + 1) (besL L Z0) ((cntT L + 1 : Nat) : Int) ((0 : Nat) : Int) L b0 b1 s0 s1 = some r → iso_Check.f (k + 4 * (cntT L + 1) + 1) L b0 b1 s0 s1 = some (r.1, r.2.1, r.2.2, none) := by
  intro r hr
  unfold iso_Check.f
  rw [show XTCheck.f L b0 b1 s0 s1 = some none by unfold XTCheck.f; rw [hc]]
  have hh : iso_triangles.f (k + 4 * (cntT L + 1) + 1) L b0 b1 s0 s1 = some r := by
   unfold iso_triangles.f
   rw [bes_f L hl, Option.bind_some, tri_len2 L hl, w64i ((cntT L : Int) + 1) (by omega) (by omega)]
   exact hr
  simp only [Option.bind_some, Option.isNone_none, ↓reduceIte, if_neg (show ¬ L = 1 by omega), hh]
 rcases h with ⟨q, live, h1, h2, h3⟩ | ⟨h1, h2⟩
 ·exact .inl ⟨q, live, h1, h2, e _ h3⟩
 ·exact .inr ⟨e _ h1, fun q hq => h2 q (Nat.zero_le _) hq⟩
end
theorem rturn_tab : ∀ o : Fin 12, ∀ r : Fin 64, honeycombref07_turned.f 200 (o.1 : Int) (r.1 : Int) = some (brT o.1 r.1 : Int) := by decide +kernel
theorem rturn_f (K o r : Nat) (hK : 200 ≤ K) (ho : o < 12) (hr : r < 64) : honeycombref07_turned.f K (o : Int) (r : Int) = some (brT o r : Int) :=
 leO_ge (g := fun k => honeycombref07_turned.f k (o : Int) (r : Int)) (fun k => honeycombref07_turned.mono _ _ k) (rturn_tab ⟨o, ho⟩ ⟨r, hr⟩) K hK
theorem nxt_hex (b0 b1 s0 s1 : Nat) (live : Bool) (r : Nat) (hr : r < 64) : nxtV b0 b1 s0 s1 0 live (r : Int) = nxB (if live = true then (s0 : Int) else (b0 : Int)) (r : Int) := by
 unfold nxtV
 rw [if_neg (by omega)]
 simp only [↓reduceIte]
section
variable {b0 b1 s0 s1 : Nat} (hT : Tb 1 b0 b1 s0 s1)
include hT
theorem rkeeps_l0 (k p : Nat) (hp : p < 12) : ∀ n r : Nat, r + n = 64 → ∃ v, rkeepsHex.l0 (k + n + 300) (p : Int) (r : Int) 1 [(b0 : Int), (b1 : Int)] [(s0 : Int), (s1 : Int)] = some v ∧ (v = true ↔ ∀ q, r ≤ q → q < 64 → badAt b0 s0 p q = false) := by
 intro n
 induction n with
 | zero =>
  intro r hr
  refine ⟨true, ?_, by simp; intro q h1 h2; omega⟩
  rw [show k + 0 + 300 = (k + 299) + 1 from rfl, rkeepsHex.l0, if_neg (by omega)]
 | succ n ih =>
  intro r hr
  have hr64 : r < 64 := by omega
  obtain ⟨v, hv, hiff⟩ := ih (r + 1) (by omega)
  have hb := brT_lt p r hp hr64
  obtain ⟨_, _, _, _, q0, q1, q2, q3, _⟩ := hT
  have n0 := rnext_f (k + n + 300) 1 b0 b1 s0 s1 0 false (r : Int) q0 q1 q2 q3 (.inl rfl) (by omega) (by omega) (by omega)
  have n1 := rnext_f (k + n + 300) 1 b0 b1 s0 s1 0 true (r : Int) q0 q1 q2 q3 (.inl rfl) (by omega) (by omega) (by omega)
  have m0 := rnext_f (k + n + 300) 1 b0 b1 s0 s1 0 false (brT p r : Int) q0 q1 q2 q3 (.inl rfl) (by omega) (by omega) (by omega)
  have m1 := rnext_f (k + n + 300) 1 b0 b1 s0 s1 0 true (brT p r : Int) q0 q1 q2 q3 (.inl rfl) (by omega) (by omega) (by omega)
  rw [nxt_hex _ _ _ _ _ r hr64] at n0 n1
  rw [nxt_hex _ _ _ _ _ (brT p r) hb] at m0 m1
  simp only [↓reduceIte, Bool.false_eq_true] at n0 n1 m0 m1
  have ht := rturn_f (k + n + 300) p r (by omega) hp hr64
  have hbad : badAt b0 s0 p r = ((nxB b0 r != nxB b0 (brT p r)) || (nxB s0 r != nxB s0 (brT p r))) := rfl
  rw [show k + (n + 1) + 300 = (k + n + 300) + 1 by omega, rkeepsHex.l0, if_pos (by omega), n0]
  simp only [Option.bind_some, ht, m0, n1, m1, wN r (by omega)]
  cases h0 : (nxB (b0 : Int) (r : Int) != nxB (b0 : Int) (brT p r : Int)) with
  | true => exact ⟨false, by simp, by simp; exact ⟨r, Nat.le_refl _, hr64, by rw [hbad, h0]; rfl⟩⟩
  | false =>
   cases h1 : (nxB (s0 : Int) (r : Int) != nxB (s0 : Int) (brT p r : Int)) with
   | true => exact ⟨false, by simp, by simp; exact ⟨r, Nat.le_refl _, hr64, by rw [hbad, h0, h1]; rfl⟩⟩
   | false =>
    refine ⟨v, by simpa using hv, hiff.trans ⟨fun h q h2 h3 => ?_, fun h q h2 h3 => h q (by omega) h3⟩⟩
    rcases Nat.eq_or_lt_of_le h2 with rfl | h4
    ·rw [hbad, h0, h1]; rfl
    ·exact h q h4 h3
end
theorem rkeeps_f {L : Int} {b0 b1 s0 s1 : Nat} (hT : Tb L b0 b1 s0 s1) (K p : Nat) (hK : 400 ≤ K) (hp : p < 12) :
    ∃ v, XRKeeps.f K L [(b0 : Int), (b1 : Int)] [(s0 : Int), (s1 : Int)] (p : Int) = some v ∧ (v = true ↔ KP L b0 b1 s0 s1 p) := by
 by_cases h1 : L = 1
 ·subst h1
  obtain ⟨k, rfl⟩ : ∃ k, K = k + 64 + 300 := ⟨K - 364, by omega⟩
  obtain ⟨v, hv, hi⟩ := rkeeps_l0 hT k p hp 64 0 (by omega)
  refine ⟨v, ?_, ?_⟩
  ·unfold XRKeeps.f
   rw [if_neg (by omega)]
   exact hv
  ·unfold KP
   rw [if_pos rfl, hi]
   exact ⟨fun h q hq => h q (Nat.zero_le _) hq, fun h q _ hq => h q hq⟩
 ·have hL := hT.1
  unfold XRKeeps.f KP
  rw [if_pos (show L > 1 by omega), if_neg h1, if_pos ⟨rfl, rfl, by omega, by omega⟩]
  refine ⟨_, rfl, ?_⟩
  rw [Bool.or_eq_true, Bool.and_eq_true, decide_eq_true_eq, beq_iff_eq, beq_iff_eq]
  have hd0 : (rd [(b0 : Int), (b1 : Int)] 0) = b0 := rfl
  have hd1 : (rd [(b0 : Int), (b1 : Int)] 1) = b1 := rfl
  have he0 : (rd [(s0 : Int), (s1 : Int)] 0) = s0 := rfl
  have he1 : (rd [(s0 : Int), (s1 : Int)] 1) = s1 := rfl
  rw [hd0, hd1, he0, he1]
  have : (p : Int) % 2 = 0 ↔ p % 2 = 0 := by omega
  rw [this]
end
end Go.Proofs.YtaeenefdbahfoaaDoor
