/- iso.brought: a ring, by an operator. -/
import Derived.Test.YtaeenefdbahfoaaDoorXOpOn
import Derived.Test.YtaeenefdbahfoaaDoorXSix
import Derived.Test.YtaeenefdbahfoaaDoorHSmall
import Derived.BigRegion
import Derived.Deep.RegionHeld3
namespace Go.Proofs.YtaeenefdbahfoaaDoor
open Go.RowKit Go.Proofs.YtaeenefdbahfoaaDoorW.PrintWords Go.Proofs.YtaeenefdbahfoaaDoorW.PrintLast Go.Proofs.YtaeenefdbahfoaaDoorW.PrintMore
open H
open Go.RowKit
set_option linter.unusedSimpArgs false

def sixL : List S63 := [⟨1, 0⟩, ⟨0, 1⟩, ⟨-1, 1⟩, ⟨-1, 0⟩, ⟨0, -1⟩, ⟨1, -1⟩]
theorem sixL_C {w : World} {g : Nat} (h : w.heap[g]? = some (.cells #[.int .i64 1, .int .i64 0, .int .i64 0, .int .i64 1, .int .i64 (-1), .int .i64 1, .int .i64 (-1), .int .i64 0, .int .i64 0, .int .i64 (-1), .int .i64 1, .int .i64 (-1)] 69 (0, 0))) :
    Kd.C k63 w (some ⟨g, 0, none⟩) sixL.length sixL := by
  refine ⟨rfl, by decide, fun _ => ⟨_, rfl, fun j p hp => ?_⟩⟩
  refine ⟨_, rfl, k63_mk w p, fun i u hu => ?_⟩
  have hj : j < 6 := (List.getElem?_eq_some_iff.1 hp).1
  have hi : i < 2 := (List.getElem?_eq_some_iff.1 hu).1
  have hjj : j = 0 ∨ j = 1 ∨ j = 2 ∨ j = 3 ∨ j = 4 ∨ j = 5 := by omega
  have hii : i = 0 ∨ i = 1 := by omega
  rcases hjj with rfl | rfl | rfl | rfl | rfl | rfl <;> rcases hii with rfl | rfl <;>
    (simp [sixL] at hp; subst hp; simp at hu; subst hu; rw [Addr.add_lit]; exact (blk_cell h _).trans rfl)

/-- the six, by number -/
def sixA : Nat → Int
  | 0 => 1 | 1 => 0 | 2 => -1 | 3 => -1 | 4 => 0 | _ => 1
def sixB : Nat → Int
  | 0 => 0 | 1 => 1 | 2 => 1 | 3 => 0 | 4 => -1 | _ => -1
/-- where an operator brings the i-th of the six -/
def posN (o : Int) (i : Nat) : Nat := if o < 6 then (i + o.toNat) % 6 else (o.toNat - 6 + 1 + 6 - i) % 6
theorem posN_lt (o : Int) (i : Nat) : posN o i < 6 := by unfold posN; split <;> omega
theorem on_six : ∀ (o : Fin 12) (i : Fin 6), onP (o.1 : Int) (sixA i.1) (sixB i.1) = (sixA (posN (o.1 : Int) i.1), sixB (posN (o.1 : Int) i.1)) := by decide
theorem index_six : ∀ (i : Fin 6), axis_Point.f 10 sixL (sixA i.1) (sixB i.1) = some (i.1 : Int) := by
  intro i
  have : i.1 = 0 ∨ i.1 = 1 ∨ i.1 = 2 ∨ i.1 = 3 ∨ i.1 = 4 ∨ i.1 = 5 := by omega
  rcases this with e | e | e | e | e | e <;> rw [e] <;> simp [axis_Point.f, axis_Point.l0, sixL, rd_T63, sixA, sixB, wrap64]
abbrev SQ (w6 w8 w9 : World) (a b : Int) (W : World) : Prop := W.cell? ⟨w6.heap.size, 0, none⟩ = some (.int .i64 a) ∧ W.cell? ⟨w6.heap.size, 1, none⟩ = some (.int .i64 b) ∧ Kd.C k63 W (some ⟨w8.heap.size, 0, none⟩) sixL.length sixL ∧ Below w9.heap.size w9 W ∧ w9.heap.size ≤ W.heap.size
theorem SQ.below {w6 w8 w9 : World} {a b : Int} {W W1 : World} (h : SQ w6 w8 w9 a b W) (hb : Below W.heap.size W W1) : SQ w6 w8 w9 a b W1 := by
  obtain ⟨h0, h1, h2, h3, h4⟩ := h
  exact ⟨pw_cell_below hb h0, pw_cell_below hb h1, Kd.C_below h2 hb, h3.trans (hb.mono h4), Nat.le_trans h4 hb.size⟩
theorem on_f (o : Int) (h0 : 0 ≤ o) (h12 : o < 12) (i : Nat) (hi : i < 6) : XOpOn.f o (sixA i) (sixB i) = some (sixA (posN o i), sixB (posN o i), none) := by
  have ho : ((o.toNat : Nat) : Int) = o := Int.toNat_of_nonneg h0
  have h := on_six ⟨o.toNat, by omega⟩ ⟨i, hi⟩
  simp only [ho] at h
  have gA : ∀ j : Nat, -1 ≤ sixA j ∧ sixA j ≤ 1 := fun j => by unfold sixA; split <;> omega
  have gB : ∀ j : Nat, -1 ≤ sixB j ∧ sixB j ≤ 1 := fun j => by unfold sixB; split <;> omega
  have g1 : ∀ j : Nat, goodP (sixA j) (sixB j) := fun j => by have := gA j; have := gB j; unfold goodP; omega
  unfold XOpOn.f
  rw [if_pos ⟨h0, h12⟩, if_pos (g1 i), h, if_pos (g1 _)]
/-- a ring brought so far -/
def brN (o ring : Int) : Nat → Int
  | 0 => 0
  | j + 1 => if Go.bits .and .i64 (ring / 2 ^ j) 1 = 1 then Go.bits .or .i64 (brN o ring j) (2 ^ posN o j) else brN o ring j
set_option maxRecDepth 100000 in
set_option maxHeartbeats 4000000 in
theorem brought_any (o ring : Int) (w : World) (h0 : 0 ≤ o) (h12 : o < 12) (hG : Six w) :
    Calls Tryd.prog 57 #[.int .i64 o, .int .i64 ring] w fun e w' => e = .returned (.int .i64 (brN o ring 6)) ∧ Below w.heap.size w w' := by
  have hsix := fun W hW => XSix.calls 1 0 0 1 (-1) 1 (-1) 0 0 (-1) 1 (-1) W hW rfl
  have HG := Aside0.mk hG
  have HSIX := Aside0.mk hsix
  clear hsix hG
  generalize hX : brN o ring 6 = X
  have HX := Aside0.mk hX
  clear hX
  go_enter Tryd.func57, Tryd.ntmps57
  go_wp2_with fail
  refine (HSIX.out _ HG.out).mono ?_
  rintro e w1 ⟨rfl, hb1⟩
  have HB1 := Aside0.mk hb1
  clear hb1
  go_wp2_with fail
  go_loopw [12, 5] (fun i out wr => ∃ j : Nat, j ≤ 6 ∧ i = .int .i64 j ∧ out = .int .i64 (brN o ring j) ∧ Below w1.heap.size w1 wr) (fun i _ _ => 6 - (intOf i).toNat)
  case atStart => exact ⟨0, by omega, rfl, rfl, Below.refl _ _⟩
  case round =>
    obtain ⟨j, hj, rfl, rfl, hb⟩ := hrel
    have HBR := Aside0.mk hb
    clear hb
    have hjj : j = 0 ∨ j = 1 ∨ j = 2 ∨ j = 3 ∨ j = 4 ∨ j = 5 ∨ j = 6 := by omega
    rcases hjj with rfl | rfl | rfl | rfl | rfl | rfl | rfl
    · have hix : ∀ w : World, (Instr.index 69 (.agg #[.int .i64 1, .int .i64 0, .int .i64 0, .int .i64 1, .int .i64 (-1), .int .i64 1, .int .i64 (-1), .int .i64 0, .int .i64 0, .int .i64 (-1), .int .i64 1, .int .i64 (-1)]) (.int .i64 0)).run Tryd.prog w = .ok (.agg #[.int .i64 1, .int .i64 0]) w := fun w => by kernel_rfl
      have hon := fun W => XOpOn.calls o 1 0 _ _ _ W (on_f o h0 h12 0 (by omega))
      have hidx := index_six ⟨posN o 0, posN_lt o 0⟩
      have hk6 := posN_lt o 0
      have hbr : brN o ring 1 = if Go.bits .and .i64 (ring / 2 ^ 0) 1 = 1 then Go.bits .or .i64 (brN o ring 0) (2 ^ posN o 0) else brN o ring 0 := rfl
      have HBRN := Aside0.mk hbr
      clear hbr
      simp only at hidx
      generalize posN o 0 = k at hon hidx hk6 HBRN
      generalize sixA k = a at hon hidx
      generalize sixB k = b at hon hidx
      go_upto_region 5 with (fail)
      obtain ⟨w5, hw5, hcc5, hsz5, hB5⟩ := one_new wr #[.int .i64 1, .int .i64 0] 63
      rw [← hw5]
      have y0 : w5.cell? ⟨wr.heap.size, 0, none⟩ = some (.int .i64 1) := hcc5 0 _ rfl
      have y1 : w5.cell? ⟨wr.heap.size, 1, none⟩ = some (.int .i64 0) := hcc5 1 _ rfl
      have hzr := HBR.out.size
      have B5 := Aside0.mk (HBR.out.trans (hB5.mono (by omega)))
      clear hw5 hcc5 hB5
      go_wp2_with fail
      refine (hon _).mono ?_
      rintro e w6 ⟨rfl, hb⟩
      have hz6 := hb.size
      have B6 := Aside0.mk (B5.out.trans (hb.mono (by omega)))
      clear hb y0 y1
      go_upto_region 6 with (fail)
      obtain ⟨w7, hw7, hcc7, hsz7, hB7⟩ := one_new w6 #[.int .i64 a, .int .i64 b] 63
      rw [← hw7]
      have q0 : w7.cell? ⟨w6.heap.size, 0, none⟩ = some (.int .i64 a) := hcc7 0 _ rfl
      have q1 : w7.cell? ⟨w6.heap.size, 1, none⟩ = some (.int .i64 b) := hcc7 1 _ rfl
      have B7 := Aside0.mk (B6.out.trans (hB7.mono (by omega)))
      clear hw7 hcc7 hB7
      by_cases hbit : Go.bits .and .i64 (ring / 2 ^ 0) 1 = 1
      · have hbit2 : (Go.bits .and .i64 (ring / 2 ^ 0) 1 == 1) = true := beq_iff_eq.2 hbit
        have hbr := (HBRN.out.trans (if_pos hbit)).symm
        simp only [Int.reducePow, Int.ediv_one] at hbit hbit2
        have HBR2 := Aside0.mk hbr
        clear hbr hbit
        go_wp2_with fail
        refine (HSIX.out _ (Six.below HG.out (HB1.out.trans (B7.out.mono HB1.out.size)))).mono ?_
        rintro e w8 ⟨rfl, hb⟩
        have q0 := pw_cell_below hb q0
        have q1 := pw_cell_below hb q1
        have hz8 := hb.size
        have B8 := Aside0.mk (B7.out.trans (hb.mono (by omega)))
        clear hb
        go_upto_region 8 with (fail)
        obtain ⟨w9, hw9⟩ : ∃ w9, w9 = w8.alloc (.cells #[.int .i64 1, .int .i64 0, .int .i64 0, .int .i64 1, .int .i64 (-1), .int .i64 1, .int .i64 (-1), .int .i64 0, .int .i64 0, .int .i64 (-1), .int .i64 1, .int .i64 (-1)] 69) := ⟨_, rfl⟩
        have hC9 : Kd.C k63 w9 (some ⟨w8.heap.size, 0, none⟩) sixL.length sixL := sixL_C (by rw [hw9]; exact blk_new _ _)
        have hBz : Below w8.heap.size w8 w9 := by rw [hw9]; exact below_alloc (Below.refl _ _) _
        rw [← hw9]
        have q0 := pw_cell_below hBz q0
        have q1 := pw_cell_below hBz q1
        have hz9 := hBz.size
        have B9 := Aside0.mk (B8.out.trans (hBz.mono (by omega)))
        clear hw9 hBz
        have hin := fun W hC => axis_Point.calls 10 (some ⟨w8.heap.size, 0, none⟩) 6 sixL a b k W hC (by decide) hidx
        have HIN := Aside0.mk hin
        clear hin
        have hS : SQ w6 w8 w9 a b w9.drew := ⟨q0, q1, Kd.C_below hC9 (below_drew (Below.refl _ _)), below_drew (Below.refl _ _), Nat.le_refl _⟩
        clear hC9 q0 q1
        go_region_held3 (fun W => W.cell? ⟨w6.heap.size, 0, none⟩ = some (.int .i64 a) ∧ W.cell? ⟨w6.heap.size, 1, none⟩ = some (.int .i64 b) ∧ Kd.C k63 W (some ⟨w8.heap.size, 0, none⟩) sixL.length sixL ∧ Below w9.heap.size w9 W ∧ w9.heap.size ≤ W.heap.size)
          (assumption)
          (first | (go_at_call 93; refine (HIN.out _ (by assumption : SQ w6 w8 w9 a b _).2.2.1).mono ?_; rintro e w10 ⟨rfl, hb10⟩; have hS10 := SQ.below (by assumption : SQ w6 w8 w9 a b _) hb10; clear hb10))
        have hwr : IntKind.i64.wrap (2 ^ k) = 2 ^ k := by
          have hkk : k = 0 ∨ k = 1 ∨ k = 2 ∨ k = 3 ∨ k = 4 ∨ k = 5 := by omega
          rcases hkk with rfl | rfl | rfl | rfl | rfl | rfl <;> decide
        have B10 := Aside0.mk (B9.out.trans ((by assumption : SQ w6 w8 w9 a b w10).2.2.2.1.mono (by omega)))
        clear hS10 hS
        go_wp2
        go_roundw
        case rel => exact ⟨1, by omega, by first | rfl | go_num, by rw [← HBR2.out]; try rw [hwr], B10.out⟩
        case measure => simp [intOf]
      · have hbit2 : (Go.bits .and .i64 (ring / 2 ^ 0) 1 == 1) = false := beq_eq_false_iff_ne.2 hbit
        have hbr := (HBRN.out.trans (if_neg hbit)).symm
        have HBR2 := Aside0.mk hbr
        simp only [Int.reducePow, Int.ediv_one] at hbit hbit2
        clear hbr hbit q0 q1
        go_wp2
        go_roundw
        case rel => exact ⟨1, by omega, by first | rfl | go_num, by rw [← HBR2.out], B7.out⟩
        case measure => simp [intOf]
    · have hix : ∀ w : World, (Instr.index 69 (.agg #[.int .i64 1, .int .i64 0, .int .i64 0, .int .i64 1, .int .i64 (-1), .int .i64 1, .int .i64 (-1), .int .i64 0, .int .i64 0, .int .i64 (-1), .int .i64 1, .int .i64 (-1)]) (.int .i64 1)).run Tryd.prog w = .ok (.agg #[.int .i64 0, .int .i64 1]) w := fun w => by kernel_rfl
      have hon := fun W => XOpOn.calls o 0 1 _ _ _ W (on_f o h0 h12 1 (by omega))
      have hidx := index_six ⟨posN o 1, posN_lt o 1⟩
      have hk6 := posN_lt o 1
      have hbr : brN o ring 2 = if Go.bits .and .i64 (ring / 2 ^ 1) 1 = 1 then Go.bits .or .i64 (brN o ring 1) (2 ^ posN o 1) else brN o ring 1 := rfl
      have HBRN := Aside0.mk hbr
      clear hbr
      simp only at hidx
      generalize posN o 1 = k at hon hidx hk6 HBRN
      generalize sixA k = a at hon hidx
      generalize sixB k = b at hon hidx
      go_upto_region 5 with (fail)
      obtain ⟨w5, hw5, hcc5, hsz5, hB5⟩ := one_new wr #[.int .i64 0, .int .i64 1] 63
      rw [← hw5]
      have y0 : w5.cell? ⟨wr.heap.size, 0, none⟩ = some (.int .i64 0) := hcc5 0 _ rfl
      have y1 : w5.cell? ⟨wr.heap.size, 1, none⟩ = some (.int .i64 1) := hcc5 1 _ rfl
      have hzr := HBR.out.size
      have B5 := Aside0.mk (HBR.out.trans (hB5.mono (by omega)))
      clear hw5 hcc5 hB5
      go_wp2_with fail
      refine (hon _).mono ?_
      rintro e w6 ⟨rfl, hb⟩
      have hz6 := hb.size
      have B6 := Aside0.mk (B5.out.trans (hb.mono (by omega)))
      clear hb y0 y1
      go_upto_region 6 with (fail)
      obtain ⟨w7, hw7, hcc7, hsz7, hB7⟩ := one_new w6 #[.int .i64 a, .int .i64 b] 63
      rw [← hw7]
      have q0 : w7.cell? ⟨w6.heap.size, 0, none⟩ = some (.int .i64 a) := hcc7 0 _ rfl
      have q1 : w7.cell? ⟨w6.heap.size, 1, none⟩ = some (.int .i64 b) := hcc7 1 _ rfl
      have B7 := Aside0.mk (B6.out.trans (hB7.mono (by omega)))
      clear hw7 hcc7 hB7
      by_cases hbit : Go.bits .and .i64 (ring / 2 ^ 1) 1 = 1
      · have hbit2 : (Go.bits .and .i64 (ring / 2 ^ 1) 1 == 1) = true := beq_iff_eq.2 hbit
        have hbr := (HBRN.out.trans (if_pos hbit)).symm
        simp only [Int.reducePow, Int.ediv_one] at hbit hbit2
        have HBR2 := Aside0.mk hbr
        clear hbr hbit
        go_wp2_with fail
        refine (HSIX.out _ (Six.below HG.out (HB1.out.trans (B7.out.mono HB1.out.size)))).mono ?_
        rintro e w8 ⟨rfl, hb⟩
        have q0 := pw_cell_below hb q0
        have q1 := pw_cell_below hb q1
        have hz8 := hb.size
        have B8 := Aside0.mk (B7.out.trans (hb.mono (by omega)))
        clear hb
        go_upto_region 8 with (fail)
        obtain ⟨w9, hw9⟩ : ∃ w9, w9 = w8.alloc (.cells #[.int .i64 1, .int .i64 0, .int .i64 0, .int .i64 1, .int .i64 (-1), .int .i64 1, .int .i64 (-1), .int .i64 0, .int .i64 0, .int .i64 (-1), .int .i64 1, .int .i64 (-1)] 69) := ⟨_, rfl⟩
        have hC9 : Kd.C k63 w9 (some ⟨w8.heap.size, 0, none⟩) sixL.length sixL := sixL_C (by rw [hw9]; exact blk_new _ _)
        have hBz : Below w8.heap.size w8 w9 := by rw [hw9]; exact below_alloc (Below.refl _ _) _
        rw [← hw9]
        have q0 := pw_cell_below hBz q0
        have q1 := pw_cell_below hBz q1
        have hz9 := hBz.size
        have B9 := Aside0.mk (B8.out.trans (hBz.mono (by omega)))
        clear hw9 hBz
        have hin := fun W hC => axis_Point.calls 10 (some ⟨w8.heap.size, 0, none⟩) 6 sixL a b k W hC (by decide) hidx
        have HIN := Aside0.mk hin
        clear hin
        have hS : SQ w6 w8 w9 a b w9.drew := ⟨q0, q1, Kd.C_below hC9 (below_drew (Below.refl _ _)), below_drew (Below.refl _ _), Nat.le_refl _⟩
        clear hC9 q0 q1
        go_region_held3 (fun W => W.cell? ⟨w6.heap.size, 0, none⟩ = some (.int .i64 a) ∧ W.cell? ⟨w6.heap.size, 1, none⟩ = some (.int .i64 b) ∧ Kd.C k63 W (some ⟨w8.heap.size, 0, none⟩) sixL.length sixL ∧ Below w9.heap.size w9 W ∧ w9.heap.size ≤ W.heap.size)
          (assumption)
          (first | (go_at_call 93; refine (HIN.out _ (by assumption : SQ w6 w8 w9 a b _).2.2.1).mono ?_; rintro e w10 ⟨rfl, hb10⟩; have hS10 := SQ.below (by assumption : SQ w6 w8 w9 a b _) hb10; clear hb10))
        have hwr : IntKind.i64.wrap (2 ^ k) = 2 ^ k := by
          have hkk : k = 0 ∨ k = 1 ∨ k = 2 ∨ k = 3 ∨ k = 4 ∨ k = 5 := by omega
          rcases hkk with rfl | rfl | rfl | rfl | rfl | rfl <;> decide
        have B10 := Aside0.mk (B9.out.trans ((by assumption : SQ w6 w8 w9 a b w10).2.2.2.1.mono (by omega)))
        clear hS10 hS
        go_wp2
        go_roundw
        case rel => exact ⟨2, by omega, by first | rfl | go_num, by rw [← HBR2.out]; try rw [hwr], B10.out⟩
        case measure => simp [intOf]
      · have hbit2 : (Go.bits .and .i64 (ring / 2 ^ 1) 1 == 1) = false := beq_eq_false_iff_ne.2 hbit
        have hbr := (HBRN.out.trans (if_neg hbit)).symm
        have HBR2 := Aside0.mk hbr
        simp only [Int.reducePow, Int.ediv_one] at hbit hbit2
        clear hbr hbit q0 q1
        go_wp2
        go_roundw
        case rel => exact ⟨2, by omega, by first | rfl | go_num, by rw [← HBR2.out], B7.out⟩
        case measure => simp [intOf]
    · have hix : ∀ w : World, (Instr.index 69 (.agg #[.int .i64 1, .int .i64 0, .int .i64 0, .int .i64 1, .int .i64 (-1), .int .i64 1, .int .i64 (-1), .int .i64 0, .int .i64 0, .int .i64 (-1), .int .i64 1, .int .i64 (-1)]) (.int .i64 2)).run Tryd.prog w = .ok (.agg #[.int .i64 (-1), .int .i64 1]) w := fun w => by kernel_rfl
      have hon := fun W => XOpOn.calls o (-1) 1 _ _ _ W (on_f o h0 h12 2 (by omega))
      have hidx := index_six ⟨posN o 2, posN_lt o 2⟩
      have hk6 := posN_lt o 2
      have hbr : brN o ring 3 = if Go.bits .and .i64 (ring / 2 ^ 2) 1 = 1 then Go.bits .or .i64 (brN o ring 2) (2 ^ posN o 2) else brN o ring 2 := rfl
      have HBRN := Aside0.mk hbr
      clear hbr
      simp only at hidx
      generalize posN o 2 = k at hon hidx hk6 HBRN
      generalize sixA k = a at hon hidx
      generalize sixB k = b at hon hidx
      go_upto_region 5 with (fail)
      obtain ⟨w5, hw5, hcc5, hsz5, hB5⟩ := one_new wr #[.int .i64 (-1), .int .i64 1] 63
      rw [← hw5]
      have y0 : w5.cell? ⟨wr.heap.size, 0, none⟩ = some (.int .i64 (-1)) := hcc5 0 _ rfl
      have y1 : w5.cell? ⟨wr.heap.size, 1, none⟩ = some (.int .i64 1) := hcc5 1 _ rfl
      have hzr := HBR.out.size
      have B5 := Aside0.mk (HBR.out.trans (hB5.mono (by omega)))
      clear hw5 hcc5 hB5
      go_wp2_with fail
      refine (hon _).mono ?_
      rintro e w6 ⟨rfl, hb⟩
      have hz6 := hb.size
      have B6 := Aside0.mk (B5.out.trans (hb.mono (by omega)))
      clear hb y0 y1
      go_upto_region 6 with (fail)
      obtain ⟨w7, hw7, hcc7, hsz7, hB7⟩ := one_new w6 #[.int .i64 a, .int .i64 b] 63
      rw [← hw7]
      have q0 : w7.cell? ⟨w6.heap.size, 0, none⟩ = some (.int .i64 a) := hcc7 0 _ rfl
      have q1 : w7.cell? ⟨w6.heap.size, 1, none⟩ = some (.int .i64 b) := hcc7 1 _ rfl
      have B7 := Aside0.mk (B6.out.trans (hB7.mono (by omega)))
      clear hw7 hcc7 hB7
      by_cases hbit : Go.bits .and .i64 (ring / 2 ^ 2) 1 = 1
      · have hbit2 : (Go.bits .and .i64 (ring / 2 ^ 2) 1 == 1) = true := beq_iff_eq.2 hbit
        have hbr := (HBRN.out.trans (if_pos hbit)).symm
        simp only [Int.reducePow, Int.ediv_one] at hbit hbit2
        have HBR2 := Aside0.mk hbr
        clear hbr hbit
        go_wp2_with fail
        refine (HSIX.out _ (Six.below HG.out (HB1.out.trans (B7.out.mono HB1.out.size)))).mono ?_
        rintro e w8 ⟨rfl, hb⟩
        have q0 := pw_cell_below hb q0
        have q1 := pw_cell_below hb q1
        have hz8 := hb.size
        have B8 := Aside0.mk (B7.out.trans (hb.mono (by omega)))
        clear hb
        go_upto_region 8 with (fail)
        obtain ⟨w9, hw9⟩ : ∃ w9, w9 = w8.alloc (.cells #[.int .i64 1, .int .i64 0, .int .i64 0, .int .i64 1, .int .i64 (-1), .int .i64 1, .int .i64 (-1), .int .i64 0, .int .i64 0, .int .i64 (-1), .int .i64 1, .int .i64 (-1)] 69) := ⟨_, rfl⟩
        have hC9 : Kd.C k63 w9 (some ⟨w8.heap.size, 0, none⟩) sixL.length sixL := sixL_C (by rw [hw9]; exact blk_new _ _)
        have hBz : Below w8.heap.size w8 w9 := by rw [hw9]; exact below_alloc (Below.refl _ _) _
        rw [← hw9]
        have q0 := pw_cell_below hBz q0
        have q1 := pw_cell_below hBz q1
        have hz9 := hBz.size
        have B9 := Aside0.mk (B8.out.trans (hBz.mono (by omega)))
        clear hw9 hBz
        have hin := fun W hC => axis_Point.calls 10 (some ⟨w8.heap.size, 0, none⟩) 6 sixL a b k W hC (by decide) hidx
        have HIN := Aside0.mk hin
        clear hin
        have hS : SQ w6 w8 w9 a b w9.drew := ⟨q0, q1, Kd.C_below hC9 (below_drew (Below.refl _ _)), below_drew (Below.refl _ _), Nat.le_refl _⟩
        clear hC9 q0 q1
        go_region_held3 (fun W => W.cell? ⟨w6.heap.size, 0, none⟩ = some (.int .i64 a) ∧ W.cell? ⟨w6.heap.size, 1, none⟩ = some (.int .i64 b) ∧ Kd.C k63 W (some ⟨w8.heap.size, 0, none⟩) sixL.length sixL ∧ Below w9.heap.size w9 W ∧ w9.heap.size ≤ W.heap.size)
          (assumption)
          (first | (go_at_call 93; refine (HIN.out _ (by assumption : SQ w6 w8 w9 a b _).2.2.1).mono ?_; rintro e w10 ⟨rfl, hb10⟩; have hS10 := SQ.below (by assumption : SQ w6 w8 w9 a b _) hb10; clear hb10))
        have hwr : IntKind.i64.wrap (2 ^ k) = 2 ^ k := by
          have hkk : k = 0 ∨ k = 1 ∨ k = 2 ∨ k = 3 ∨ k = 4 ∨ k = 5 := by omega
          rcases hkk with rfl | rfl | rfl | rfl | rfl | rfl <;> decide
        have B10 := Aside0.mk (B9.out.trans ((by assumption : SQ w6 w8 w9 a b w10).2.2.2.1.mono (by omega)))
        clear hS10 hS
        go_wp2
        go_roundw
        case rel => exact ⟨3, by omega, by first | rfl | go_num, by rw [← HBR2.out]; try rw [hwr], B10.out⟩
        case measure => simp [intOf]
      · have hbit2 : (Go.bits .and .i64 (ring / 2 ^ 2) 1 == 1) = false := beq_eq_false_iff_ne.2 hbit
        have hbr := (HBRN.out.trans (if_neg hbit)).symm
        have HBR2 := Aside0.mk hbr
        simp only [Int.reducePow, Int.ediv_one] at hbit hbit2
        clear hbr hbit q0 q1
        go_wp2
        go_roundw
        case rel => exact ⟨3, by omega, by first | rfl | go_num, by rw [← HBR2.out], B7.out⟩
        case measure => simp [intOf]
    · have hix : ∀ w : World, (Instr.index 69 (.agg #[.int .i64 1, .int .i64 0, .int .i64 0, .int .i64 1, .int .i64 (-1), .int .i64 1, .int .i64 (-1), .int .i64 0, .int .i64 0, .int .i64 (-1), .int .i64 1, .int .i64 (-1)]) (.int .i64 3)).run Tryd.prog w = .ok (.agg #[.int .i64 (-1), .int .i64 0]) w := fun w => by kernel_rfl
      have hon := fun W => XOpOn.calls o (-1) 0 _ _ _ W (on_f o h0 h12 3 (by omega))
      have hidx := index_six ⟨posN o 3, posN_lt o 3⟩
      have hk6 := posN_lt o 3
      have hbr : brN o ring 4 = if Go.bits .and .i64 (ring / 2 ^ 3) 1 = 1 then Go.bits .or .i64 (brN o ring 3) (2 ^ posN o 3) else brN o ring 3 := rfl
      have HBRN := Aside0.mk hbr
      clear hbr
      simp only at hidx
      generalize posN o 3 = k at hon hidx hk6 HBRN
      generalize sixA k = a at hon hidx
      generalize sixB k = b at hon hidx
      go_upto_region 5 with (fail)
      obtain ⟨w5, hw5, hcc5, hsz5, hB5⟩ := one_new wr #[.int .i64 (-1), .int .i64 0] 63
      rw [← hw5]
      have y0 : w5.cell? ⟨wr.heap.size, 0, none⟩ = some (.int .i64 (-1)) := hcc5 0 _ rfl
      have y1 : w5.cell? ⟨wr.heap.size, 1, none⟩ = some (.int .i64 0) := hcc5 1 _ rfl
      have hzr := HBR.out.size
      have B5 := Aside0.mk (HBR.out.trans (hB5.mono (by omega)))
      clear hw5 hcc5 hB5
      go_wp2_with fail
      refine (hon _).mono ?_
      rintro e w6 ⟨rfl, hb⟩
      have hz6 := hb.size
      have B6 := Aside0.mk (B5.out.trans (hb.mono (by omega)))
      clear hb y0 y1
      go_upto_region 6 with (fail)
      obtain ⟨w7, hw7, hcc7, hsz7, hB7⟩ := one_new w6 #[.int .i64 a, .int .i64 b] 63
      rw [← hw7]
      have q0 : w7.cell? ⟨w6.heap.size, 0, none⟩ = some (.int .i64 a) := hcc7 0 _ rfl
      have q1 : w7.cell? ⟨w6.heap.size, 1, none⟩ = some (.int .i64 b) := hcc7 1 _ rfl
      have B7 := Aside0.mk (B6.out.trans (hB7.mono (by omega)))
      clear hw7 hcc7 hB7
      by_cases hbit : Go.bits .and .i64 (ring / 2 ^ 3) 1 = 1
      · have hbit2 : (Go.bits .and .i64 (ring / 2 ^ 3) 1 == 1) = true := beq_iff_eq.2 hbit
        have hbr := (HBRN.out.trans (if_pos hbit)).symm
        simp only [Int.reducePow, Int.ediv_one] at hbit hbit2
        have HBR2 := Aside0.mk hbr
        clear hbr hbit
        go_wp2_with fail
        refine (HSIX.out _ (Six.below HG.out (HB1.out.trans (B7.out.mono HB1.out.size)))).mono ?_
        rintro e w8 ⟨rfl, hb⟩
        have q0 := pw_cell_below hb q0
        have q1 := pw_cell_below hb q1
        have hz8 := hb.size
        have B8 := Aside0.mk (B7.out.trans (hb.mono (by omega)))
        clear hb
        go_upto_region 8 with (fail)
        obtain ⟨w9, hw9⟩ : ∃ w9, w9 = w8.alloc (.cells #[.int .i64 1, .int .i64 0, .int .i64 0, .int .i64 1, .int .i64 (-1), .int .i64 1, .int .i64 (-1), .int .i64 0, .int .i64 0, .int .i64 (-1), .int .i64 1, .int .i64 (-1)] 69) := ⟨_, rfl⟩
        have hC9 : Kd.C k63 w9 (some ⟨w8.heap.size, 0, none⟩) sixL.length sixL := sixL_C (by rw [hw9]; exact blk_new _ _)
        have hBz : Below w8.heap.size w8 w9 := by rw [hw9]; exact below_alloc (Below.refl _ _) _
        rw [← hw9]
        have q0 := pw_cell_below hBz q0
        have q1 := pw_cell_below hBz q1
        have hz9 := hBz.size
        have B9 := Aside0.mk (B8.out.trans (hBz.mono (by omega)))
        clear hw9 hBz
        have hin := fun W hC => axis_Point.calls 10 (some ⟨w8.heap.size, 0, none⟩) 6 sixL a b k W hC (by decide) hidx
        have HIN := Aside0.mk hin
        clear hin
        have hS : SQ w6 w8 w9 a b w9.drew := ⟨q0, q1, Kd.C_below hC9 (below_drew (Below.refl _ _)), below_drew (Below.refl _ _), Nat.le_refl _⟩
        clear hC9 q0 q1
        go_region_held3 (fun W => W.cell? ⟨w6.heap.size, 0, none⟩ = some (.int .i64 a) ∧ W.cell? ⟨w6.heap.size, 1, none⟩ = some (.int .i64 b) ∧ Kd.C k63 W (some ⟨w8.heap.size, 0, none⟩) sixL.length sixL ∧ Below w9.heap.size w9 W ∧ w9.heap.size ≤ W.heap.size)
          (assumption)
          (first | (go_at_call 93; refine (HIN.out _ (by assumption : SQ w6 w8 w9 a b _).2.2.1).mono ?_; rintro e w10 ⟨rfl, hb10⟩; have hS10 := SQ.below (by assumption : SQ w6 w8 w9 a b _) hb10; clear hb10))
        have hwr : IntKind.i64.wrap (2 ^ k) = 2 ^ k := by
          have hkk : k = 0 ∨ k = 1 ∨ k = 2 ∨ k = 3 ∨ k = 4 ∨ k = 5 := by omega
          rcases hkk with rfl | rfl | rfl | rfl | rfl | rfl <;> decide
        have B10 := Aside0.mk (B9.out.trans ((by assumption : SQ w6 w8 w9 a b w10).2.2.2.1.mono (by omega)))
        clear hS10 hS
        go_wp2
        go_roundw
        case rel => exact ⟨4, by omega, by first | rfl | go_num, by rw [← HBR2.out]; try rw [hwr], B10.out⟩
        case measure => simp [intOf]
      · have hbit2 : (Go.bits .and .i64 (ring / 2 ^ 3) 1 == 1) = false := beq_eq_false_iff_ne.2 hbit
        have hbr := (HBRN.out.trans (if_neg hbit)).symm
        have HBR2 := Aside0.mk hbr
        simp only [Int.reducePow, Int.ediv_one] at hbit hbit2
        clear hbr hbit q0 q1
        go_wp2
        go_roundw
        case rel => exact ⟨4, by omega, by first | rfl | go_num, by rw [← HBR2.out], B7.out⟩
        case measure => simp [intOf]
    · have hix : ∀ w : World, (Instr.index 69 (.agg #[.int .i64 1, .int .i64 0, .int .i64 0, .int .i64 1, .int .i64 (-1), .int .i64 1, .int .i64 (-1), .int .i64 0, .int .i64 0, .int .i64 (-1), .int .i64 1, .int .i64 (-1)]) (.int .i64 4)).run Tryd.prog w = .ok (.agg #[.int .i64 0, .int .i64 (-1)]) w := fun w => by kernel_rfl
      have hon := fun W => XOpOn.calls o 0 (-1) _ _ _ W (on_f o h0 h12 4 (by omega))
      have hidx := index_six ⟨posN o 4, posN_lt o 4⟩
      have hk6 := posN_lt o 4
      have hbr : brN o ring 5 = if Go.bits .and .i64 (ring / 2 ^ 4) 1 = 1 then Go.bits .or .i64 (brN o ring 4) (2 ^ posN o 4) else brN o ring 4 := rfl
      have HBRN := Aside0.mk hbr
      clear hbr
      simp only at hidx
      generalize posN o 4 = k at hon hidx hk6 HBRN
      generalize sixA k = a at hon hidx
      generalize sixB k = b at hon hidx
      go_upto_region 5 with (fail)
      obtain ⟨w5, hw5, hcc5, hsz5, hB5⟩ := one_new wr #[.int .i64 0, .int .i64 (-1)] 63
      rw [← hw5]
      have y0 : w5.cell? ⟨wr.heap.size, 0, none⟩ = some (.int .i64 0) := hcc5 0 _ rfl
      have y1 : w5.cell? ⟨wr.heap.size, 1, none⟩ = some (.int .i64 (-1)) := hcc5 1 _ rfl
      have hzr := HBR.out.size
      have B5 := Aside0.mk (HBR.out.trans (hB5.mono (by omega)))
      clear hw5 hcc5 hB5
      go_wp2_with fail
      refine (hon _).mono ?_
      rintro e w6 ⟨rfl, hb⟩
      have hz6 := hb.size
      have B6 := Aside0.mk (B5.out.trans (hb.mono (by omega)))
      clear hb y0 y1
      go_upto_region 6 with (fail)
      obtain ⟨w7, hw7, hcc7, hsz7, hB7⟩ := one_new w6 #[.int .i64 a, .int .i64 b] 63
      rw [← hw7]
      have q0 : w7.cell? ⟨w6.heap.size, 0, none⟩ = some (.int .i64 a) := hcc7 0 _ rfl
      have q1 : w7.cell? ⟨w6.heap.size, 1, none⟩ = some (.int .i64 b) := hcc7 1 _ rfl
      have B7 := Aside0.mk (B6.out.trans (hB7.mono (by omega)))
      clear hw7 hcc7 hB7
      by_cases hbit : Go.bits .and .i64 (ring / 2 ^ 4) 1 = 1
      · have hbit2 : (Go.bits .and .i64 (ring / 2 ^ 4) 1 == 1) = true := beq_iff_eq.2 hbit
        have hbr := (HBRN.out.trans (if_pos hbit)).symm
        simp only [Int.reducePow, Int.ediv_one] at hbit hbit2
        have HBR2 := Aside0.mk hbr
        clear hbr hbit
        go_wp2_with fail
        refine (HSIX.out _ (Six.below HG.out (HB1.out.trans (B7.out.mono HB1.out.size)))).mono ?_
        rintro e w8 ⟨rfl, hb⟩
        have q0 := pw_cell_below hb q0
        have q1 := pw_cell_below hb q1
        have hz8 := hb.size
        have B8 := Aside0.mk (B7.out.trans (hb.mono (by omega)))
        clear hb
        go_upto_region 8 with (fail)
        obtain ⟨w9, hw9⟩ : ∃ w9, w9 = w8.alloc (.cells #[.int .i64 1, .int .i64 0, .int .i64 0, .int .i64 1, .int .i64 (-1), .int .i64 1, .int .i64 (-1), .int .i64 0, .int .i64 0, .int .i64 (-1), .int .i64 1, .int .i64 (-1)] 69) := ⟨_, rfl⟩
        have hC9 : Kd.C k63 w9 (some ⟨w8.heap.size, 0, none⟩) sixL.length sixL := sixL_C (by rw [hw9]; exact blk_new _ _)
        have hBz : Below w8.heap.size w8 w9 := by rw [hw9]; exact below_alloc (Below.refl _ _) _
        rw [← hw9]
        have q0 := pw_cell_below hBz q0
        have q1 := pw_cell_below hBz q1
        have hz9 := hBz.size
        have B9 := Aside0.mk (B8.out.trans (hBz.mono (by omega)))
        clear hw9 hBz
        have hin := fun W hC => axis_Point.calls 10 (some ⟨w8.heap.size, 0, none⟩) 6 sixL a b k W hC (by decide) hidx
        have HIN := Aside0.mk hin
        clear hin
        have hS : SQ w6 w8 w9 a b w9.drew := ⟨q0, q1, Kd.C_below hC9 (below_drew (Below.refl _ _)), below_drew (Below.refl _ _), Nat.le_refl _⟩
        clear hC9 q0 q1
        go_region_held3 (fun W => W.cell? ⟨w6.heap.size, 0, none⟩ = some (.int .i64 a) ∧ W.cell? ⟨w6.heap.size, 1, none⟩ = some (.int .i64 b) ∧ Kd.C k63 W (some ⟨w8.heap.size, 0, none⟩) sixL.length sixL ∧ Below w9.heap.size w9 W ∧ w9.heap.size ≤ W.heap.size)
          (assumption)
          (first | (go_at_call 93; refine (HIN.out _ (by assumption : SQ w6 w8 w9 a b _).2.2.1).mono ?_; rintro e w10 ⟨rfl, hb10⟩; have hS10 := SQ.below (by assumption : SQ w6 w8 w9 a b _) hb10; clear hb10))
        have hwr : IntKind.i64.wrap (2 ^ k) = 2 ^ k := by
          have hkk : k = 0 ∨ k = 1 ∨ k = 2 ∨ k = 3 ∨ k = 4 ∨ k = 5 := by omega
          rcases hkk with rfl | rfl | rfl | rfl | rfl | rfl <;> decide
        have B10 := Aside0.mk (B9.out.trans ((by assumption : SQ w6 w8 w9 a b w10).2.2.2.1.mono (by omega)))
        clear hS10 hS
        go_wp2
        go_roundw
        case rel => exact ⟨5, by omega, by first | rfl | go_num, by rw [← HBR2.out]; try rw [hwr], B10.out⟩
        case measure => simp [intOf]
      · have hbit2 : (Go.bits .and .i64 (ring / 2 ^ 4) 1 == 1) = false := beq_eq_false_iff_ne.2 hbit
        have hbr := (HBRN.out.trans (if_neg hbit)).symm
        have HBR2 := Aside0.mk hbr
        simp only [Int.reducePow, Int.ediv_one] at hbit hbit2
        clear hbr hbit q0 q1
        go_wp2
        go_roundw
        case rel => exact ⟨5, by omega, by first | rfl | go_num, by rw [← HBR2.out], B7.out⟩
        case measure => simp [intOf]
    · have hix : ∀ w : World, (Instr.index 69 (.agg #[.int .i64 1, .int .i64 0, .int .i64 0, .int .i64 1, .int .i64 (-1), .int .i64 1, .int .i64 (-1), .int .i64 0, .int .i64 0, .int .i64 (-1), .int .i64 1, .int .i64 (-1)]) (.int .i64 5)).run Tryd.prog w = .ok (.agg #[.int .i64 1, .int .i64 (-1)]) w := fun w => by kernel_rfl
      have hon := fun W => XOpOn.calls o 1 (-1) _ _ _ W (on_f o h0 h12 5 (by omega))
      have hidx := index_six ⟨posN o 5, posN_lt o 5⟩
      have hk6 := posN_lt o 5
      have hbr : brN o ring 6 = if Go.bits .and .i64 (ring / 2 ^ 5) 1 = 1 then Go.bits .or .i64 (brN o ring 5) (2 ^ posN o 5) else brN o ring 5 := rfl
      have HBRN := Aside0.mk hbr
      clear hbr
      simp only at hidx
      generalize posN o 5 = k at hon hidx hk6 HBRN
      generalize sixA k = a at hon hidx
      generalize sixB k = b at hon hidx
      go_upto_region 5 with (fail)
      obtain ⟨w5, hw5, hcc5, hsz5, hB5⟩ := one_new wr #[.int .i64 1, .int .i64 (-1)] 63
      rw [← hw5]
      have y0 : w5.cell? ⟨wr.heap.size, 0, none⟩ = some (.int .i64 1) := hcc5 0 _ rfl
      have y1 : w5.cell? ⟨wr.heap.size, 1, none⟩ = some (.int .i64 (-1)) := hcc5 1 _ rfl
      have hzr := HBR.out.size
      have B5 := Aside0.mk (HBR.out.trans (hB5.mono (by omega)))
      clear hw5 hcc5 hB5
      go_wp2_with fail
      refine (hon _).mono ?_
      rintro e w6 ⟨rfl, hb⟩
      have hz6 := hb.size
      have B6 := Aside0.mk (B5.out.trans (hb.mono (by omega)))
      clear hb y0 y1
      go_upto_region 6 with (fail)
      obtain ⟨w7, hw7, hcc7, hsz7, hB7⟩ := one_new w6 #[.int .i64 a, .int .i64 b] 63
      rw [← hw7]
      have q0 : w7.cell? ⟨w6.heap.size, 0, none⟩ = some (.int .i64 a) := hcc7 0 _ rfl
      have q1 : w7.cell? ⟨w6.heap.size, 1, none⟩ = some (.int .i64 b) := hcc7 1 _ rfl
      have B7 := Aside0.mk (B6.out.trans (hB7.mono (by omega)))
      clear hw7 hcc7 hB7
      by_cases hbit : Go.bits .and .i64 (ring / 2 ^ 5) 1 = 1
      · have hbit2 : (Go.bits .and .i64 (ring / 2 ^ 5) 1 == 1) = true := beq_iff_eq.2 hbit
        have hbr := (HBRN.out.trans (if_pos hbit)).symm
        simp only [Int.reducePow, Int.ediv_one] at hbit hbit2
        have HBR2 := Aside0.mk hbr
        clear hbr hbit
        go_wp2_with fail
        refine (HSIX.out _ (Six.below HG.out (HB1.out.trans (B7.out.mono HB1.out.size)))).mono ?_
        rintro e w8 ⟨rfl, hb⟩
        have q0 := pw_cell_below hb q0
        have q1 := pw_cell_below hb q1
        have hz8 := hb.size
        have B8 := Aside0.mk (B7.out.trans (hb.mono (by omega)))
        clear hb
        go_upto_region 8 with (fail)
        obtain ⟨w9, hw9⟩ : ∃ w9, w9 = w8.alloc (.cells #[.int .i64 1, .int .i64 0, .int .i64 0, .int .i64 1, .int .i64 (-1), .int .i64 1, .int .i64 (-1), .int .i64 0, .int .i64 0, .int .i64 (-1), .int .i64 1, .int .i64 (-1)] 69) := ⟨_, rfl⟩
        have hC9 : Kd.C k63 w9 (some ⟨w8.heap.size, 0, none⟩) sixL.length sixL := sixL_C (by rw [hw9]; exact blk_new _ _)
        have hBz : Below w8.heap.size w8 w9 := by rw [hw9]; exact below_alloc (Below.refl _ _) _
        rw [← hw9]
        have q0 := pw_cell_below hBz q0
        have q1 := pw_cell_below hBz q1
        have hz9 := hBz.size
        have B9 := Aside0.mk (B8.out.trans (hBz.mono (by omega)))
        clear hw9 hBz
        have hin := fun W hC => axis_Point.calls 10 (some ⟨w8.heap.size, 0, none⟩) 6 sixL a b k W hC (by decide) hidx
        have HIN := Aside0.mk hin
        clear hin
        have hS : SQ w6 w8 w9 a b w9.drew := ⟨q0, q1, Kd.C_below hC9 (below_drew (Below.refl _ _)), below_drew (Below.refl _ _), Nat.le_refl _⟩
        clear hC9 q0 q1
        go_region_held3 (fun W => W.cell? ⟨w6.heap.size, 0, none⟩ = some (.int .i64 a) ∧ W.cell? ⟨w6.heap.size, 1, none⟩ = some (.int .i64 b) ∧ Kd.C k63 W (some ⟨w8.heap.size, 0, none⟩) sixL.length sixL ∧ Below w9.heap.size w9 W ∧ w9.heap.size ≤ W.heap.size)
          (assumption)
          (first | (go_at_call 93; refine (HIN.out _ (by assumption : SQ w6 w8 w9 a b _).2.2.1).mono ?_; rintro e w10 ⟨rfl, hb10⟩; have hS10 := SQ.below (by assumption : SQ w6 w8 w9 a b _) hb10; clear hb10))
        have hwr : IntKind.i64.wrap (2 ^ k) = 2 ^ k := by
          have hkk : k = 0 ∨ k = 1 ∨ k = 2 ∨ k = 3 ∨ k = 4 ∨ k = 5 := by omega
          rcases hkk with rfl | rfl | rfl | rfl | rfl | rfl <;> decide
        have B10 := Aside0.mk (B9.out.trans ((by assumption : SQ w6 w8 w9 a b w10).2.2.2.1.mono (by omega)))
        clear hS10 hS
        go_wp2
        go_roundw
        case rel => exact ⟨6, by omega, by first | rfl | go_num, by rw [← HBR2.out]; try rw [hwr], B10.out⟩
        case measure => simp [intOf]
      · have hbit2 : (Go.bits .and .i64 (ring / 2 ^ 5) 1 == 1) = false := beq_eq_false_iff_ne.2 hbit
        have hbr := (HBRN.out.trans (if_neg hbit)).symm
        have HBR2 := Aside0.mk hbr
        simp only [Int.reducePow, Int.ediv_one] at hbit hbit2
        clear hbr hbit q0 q1
        go_wp2
        go_roundw
        case rel => exact ⟨6, by omega, by first | rfl | go_num, by rw [← HBR2.out], B7.out⟩
        case measure => simp [intOf]
    · have hX : X = brN o ring 6 := HX.out.symm
      clear HX
      subst hX
      go_wp2
      go_ret
      exact ⟨rfl, HB1.out.trans (HBR.out.mono HB1.out.size)⟩
def XBrought.f (o ring : Int) : Option Int := if 0 ≤ o ∧ o < 12 then some (brN o ring 6) else none
theorem XBrought.calls (a0 : Int) (a1 : Int) (r : Int) (w : World) (hGSix : Six w) (h : XBrought.f a0 a1 = some r) :
    Calls Tryd.prog 57 #[.int .i64 a0, .int .i64 a1] w fun e w' => e = .returned (.int .i64 r) ∧ Below w.heap.size w w' := by
  unfold XBrought.f at h
  by_cases ho : 0 ≤ a0 ∧ a0 < 12
  · rw [if_pos ho] at h
    obtain rfl := Option.some.inj h
    exact brought_any a0 a1 w ho.1 ho.2 hGSix
  · rw [if_neg ho] at h
    cases h
end Go.Proofs.YtaeenefdbahfoaaDoor
