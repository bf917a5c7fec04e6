/- Parts of the proof (IsoKeeps), merged out of our texts by wip/tools/pack.py: XAwake07, XSome5, Hhoneycomblaw07IsoGroup, PGroup, Mp, PtKey, Mp2, CcKey, AroundP, HCell1, HCell2, PCell0, Ord, StepP, PAlive, Find, XFind, XWrap, HSet4, XAround, PSet0, Mp3. -/
import Derived.Test.YtaeenefdbahfoaaDoorKIsoKeeps2
import Derived.Test.YtaeenefdbahfoaaDoorKIsoKeeps3
import Derived.BigRegion
import Derived.Deep.RegionHeld3
import Derived.Test.YtaeenefdbahfoaaDoorKIsoKeeps1
import Derived.Maps.OwnSet
import Derived.DeepKeys4
import Derived.Carry
import Derived.Maps.RangeRun
namespace Go.Proofs.YtaeenefdbahfoaaDoor
open Go.RowKit Go.Proofs.YtaeenefdbahfoaaDoorW.PrintWords Go.Proofs.YtaeenefdbahfoaaDoorW.PrintLast Go.Proofs.YtaeenefdbahfoaaDoorW.PrintMore
open H
open Go.RowKit
set_option linter.unusedSimpArgs false
/-- those beside the origin's triangle that points up -/
def tri0 : List S65 := (offs 2 0).map (sh 0 0)
theorem tri0_f : XBeside.f 2 0 0 0 = some (tri0, none) := by decide +kernel
theorem tri0_len : tri0.length = 3 := by decide +kernel
abbrev TB7 (b1 : Int) : Obj := .cells #[.int .i64 2, .int .u64 2, .int .u64 b1, .int .u64 0, .int .u64 0] 29 (0, 0)
abbrev S5 (g : Nat) (b1 : Int) (W : World) : Prop := W.cell? ⟨g, 0, none⟩ = some (.int .i64 2) ∧ W.cell? ⟨g, 1, none⟩ = some (.int .u64 2) ∧ W.cell? ⟨g, 2, none⟩ = some (.int .u64 b1) ∧ W.cell? ⟨g, 3, none⟩ = some (.int .u64 0) ∧ W.cell? ⟨g, 4, none⟩ = some (.int .u64 0)
theorem S5.below {g : Nat} {b1 : Int} {W W1 : World} (h : S5 g b1 W) (hb : Below W.heap.size W W1) : S5 g b1 W1 := ⟨pw_cell_below hb h.1, pw_cell_below hb h.2.1, pw_cell_below hb h.2.2.1, pw_cell_below hb h.2.2.2.1, pw_cell_below hb h.2.2.2.2⟩
theorem S5.of {g : Nat} {b1 : Int} {W : World} (h : W.heap[g]? = some (TB7 b1)) : S5 g b1 W := ⟨blk_cell h 0, blk_cell h 1, blk_cell h 2, blk_cell h 3, blk_cell h 4⟩
abbrev S6 (g : Nat) (b1 : Int) (B0 W : World) : Prop := W.cell? ⟨g, 0, none⟩ = some (.int .i64 2) ∧ W.cell? ⟨g, 1, none⟩ = some (.int .u64 2) ∧ W.cell? ⟨g, 2, none⟩ = some (.int .u64 b1) ∧ W.cell? ⟨g, 3, none⟩ = some (.int .u64 0) ∧ W.cell? ⟨g, 4, none⟩ = some (.int .u64 0) ∧ Below B0.heap.size B0 W
theorem S6.next {g : Nat} {b1 : Int} {B0 W W1 : World} (h : S6 g b1 B0 W) (hb : Below W.heap.size W W1) : S6 g b1 B0 W1 := ⟨pw_cell_below hb h.1, pw_cell_below hb h.2.1, pw_cell_below hb h.2.2.1, pw_cell_below hb h.2.2.2.1, pw_cell_below hb h.2.2.2.2.1, h.2.2.2.2.2.trans (hb.mono h.2.2.2.2.2.size)⟩
abbrev WB : Obj := .cells #[.slice none 0 0, .int .i64 0] 37 (0, 0)
abbrev FB : Obj := .cells #[.bool false, .bool true] 4 (0, 0)
set_option maxRecDepth 100000 in
set_option maxHeartbeats 8000000 in
theorem tri_same (w : World) (hG : Six w) : Calls Tryd.prog 55 #[.agg #[.int .i64 2, .int .u64 2, .int .u64 2, .int .u64 0, .int .u64 0]] w fun e w' => (∃ (A : Option Addr) (n c : Nat) (o : Int), e = .returned (.tuple #[.agg #[.slice A n c, .int .i64 o], .bool false])) ∧ Below w.heap.size w w' := by
  have hbs := fun W hW => XBeside.calls 2 0 0 0 tri0 none W hW tri0_f
  simp only [errW_none] at hbs
  have HBS := Aside0.mk hbs
  have HG := Aside0.mk hG
  clear hbs hG
  go_enter Tryd.func55, Tryd.ntmps55
  go_wp2_with fail
  obtain ⟨w2, hw2⟩ : ∃ W, W = (w.alloc (.cells #[.int .i64 2, .int .u64 2, .int .u64 2, .int .u64 0, .int .u64 0] 29)).alloc (.cells #[.slice none 0 0, .int .i64 0] 37) := ⟨_, rfl⟩
  have kT : w2.heap[w.heap.size]? = some (TB7 2) := by rw [hw2]; exact blk_alloc (blk_new _ _) _
  have kW : w2.heap[w.heap.size + 1]? = some WB := by
    have := blk_new (w.alloc (.cells #[.int .i64 2, .int .u64 2, .int .u64 2, .int .u64 0, .int .u64 0] 29)) WB
    rw [World.size_alloc] at this
    rw [hw2]; exact this
  have hB2 : Below w.heap.size w w2 := by rw [hw2]; exact below_alloc (below_alloc (Below.refl _ _) _) _
  rw [← hw2]
  have HB2 := Aside0.mk hB2
  clear hw2 hB2
  refine (HBS.out w2 (HG.out.below HB2.out)).mono ?_
  rintro e w3 ⟨v, rfl, hR, hb3⟩
  obtain ⟨A, c, rfl, hlc, hC⟩ := Kd.R_reads hR
  rw [tri0_len]
  rw [tri0_len] at hlc
  have kT := blk_below kT hb3
  have kW := blk_below kW hb3
  have HB3 := Aside0.mk (HB2.out.trans (hb3.mono HB2.out.size))
  have HC := Aside0.mk hC
  have HLC := Aside0.mk hlc
  have hw4 : IntKind.i64.wrap (3 + 1) = 4 := by decide
  clear hR hC hlc hb3 HBS
  go_wp2_with fail
  go_loopw [20] (fun iv wr => ∃ n : Nat, n ≤ 4 ∧ iv = .int .i64 n ∧ wr.heap[w.heap.size]? = some (TB7 2) ∧ wr.heap[w.heap.size + 1]? = some WB ∧ Below w3.heap.size w3 wr) (fun iv _ => 4 - (intOf iv).toNat)
  case atStart => exact ⟨0, by omega, rfl, kT, kW, Below.refl _ _⟩
  case round =>
    clear kT kW
    obtain ⟨n, hn, rfl, kT, kW, hB⟩ := hrel
    have KT := Aside0.mk kT
    have KW := Aside0.mk kW
    have HB := Aside0.mk hB
    have hz3 := hB.size
    have lT := blk_lt kT
    have lW := blk_lt kW
    clear kT kW hB
    have hnn : n = 0 ∨ n = 1 ∨ n = 2 ∨ n = 3 ∨ n = 4 := by omega
    rcases hnn with rfl | rfl | rfl | rfl | rfl
    · go_upto_region 6 with (fail)
      obtain ⟨w5, hw5⟩ : ∃ W, W = wr.alloc (.cells #[.bool false, .bool true] 4) := ⟨_, rfl⟩
      have kB : w5.heap[wr.heap.size]? = some FB := by rw [hw5]; exact blk_new _ _
      have hB5 : Below wr.heap.size wr w5 := by rw [hw5]; exact below_alloc (Below.refl _ _) _
      rw [← hw5]
      obtain ⟨gB, hgB⟩ : ∃ g, g = wr.heap.size := ⟨_, rfl⟩
      rw [← hgB] at kB ⊢
      have kT := blk_below KT.out hB5
      have kW := blk_below KW.out hB5
      have HB5 := Aside0.mk (HB.out.trans (hB5.mono hz3))
      clear hw5 hB5 hgB KT KW HB
      try rw [show ((0 : Nat) : Int) = 0 from rfl]
      go_loopw [25] (fun iv wr => ∃ j : Nat, j ≤ 2 ∧ iv = .int .i64 j ∧ wr.heap[w.heap.size]? = some (TB7 2) ∧ wr.heap[w.heap.size + 1]? = some WB ∧ wr.heap[gB]? = some FB ∧ Below w3.heap.size w3 wr) (fun iv _ => 2 - (intOf iv).toNat)
      case atStart => exact ⟨0, by omega, rfl, kT, kW, kB, HB5.out⟩
      case round =>
        clear kT kW kB HB5
        obtain ⟨j, hj, rfl, kT, kW, kB, hB⟩ := hrel
        have KT := Aside0.mk kT
        have KW := Aside0.mk kW
        have KB := Aside0.mk kB
        have HB := Aside0.mk hB
        have hz3 := hB.size
        have b0 := blk_cell kB 0
        have b1 := blk_cell kB 1
        simp only [List.getElem?_toArray, List.getElem?_cons_zero, List.getElem?_cons_succ] at b0 b1
        have lT := blk_lt kT
        have lW := blk_lt kW
        have lB := blk_lt kB
        have hS : S6 w.heap.size 2 wr.drew wr.drew := ⟨blk_cell kT 0, blk_cell kT 1, blk_cell kT 2, blk_cell kT 3, blk_cell kT 4, Below.refl _ _⟩
        clear kT kW kB hB
        have hjj : j = 0 ∨ j = 1 ∨ j = 2 := by omega
        rcases hjj with rfl | rfl | rfl
        · obtain ⟨r0, r1, f0, f1, hr⟩ : ∃ r0 r1, XNext.f 2 2 2 0 0 0 false 0 = some r0 ∧ XNext.f 2 2 2 0 0 1 false 0 = some r1 ∧ (r0 == r1) = true := ⟨_, _, rfl, rfl, by decide +kernel⟩
          have c0 := fun W => XNext.calls 2 2 2 0 0 0 false 0 r0 W f0
          have c1 := fun W => XNext.calls 2 2 2 0 0 1 false 0 r1 W f1
          clear f0 f1
          go_upto_region 8 with (fail)
          go_region_held3 (fun W => W.cell? ⟨w.heap.size, 0, none⟩ = some (.int .i64 2) ∧ W.cell? ⟨w.heap.size, 1, none⟩ = some (.int .u64 2) ∧ W.cell? ⟨w.heap.size, 2, none⟩ = some (.int .u64 2) ∧ W.cell? ⟨w.heap.size, 3, none⟩ = some (.int .u64 0) ∧ W.cell? ⟨w.heap.size, 4, none⟩ = some (.int .u64 0) ∧ Below wr.drew.heap.size wr.drew W)
            (assumption)
            (first | (go_at_call 58; (first | (with_reducible refine (c0 _).mono ?_) | (with_reducible refine (c1 _).mono ?_)); rintro e wN ⟨rfl, hbN⟩; have hSN := S6.next (by assumption : S6 w.heap.size 2 wr.drew _) hbN; clear hbN))
          all_goals (
            have hF := hSN.2.2.2.2.2
            have hBw := (below_drew HB.out).trans (hF.mono (by show w3.heap.size ≤ wr.heap.size; omega))
            have FF := Aside0.mk (And.intro (blk_below (w := wr.drew) KT.out hF) (And.intro (blk_below (w := wr.drew) KW.out hF) (And.intro (blk_below (w := wr.drew) KB.out hF) hBw)))
            clear hF hSN hBw hS
            go_wp2
            go_roundw
            case rel => exact ⟨1, by omega, by first | rfl | go_num, FF.out.1, FF.out.2.1, FF.out.2.2.1, FF.out.2.2.2⟩
            case measure => simp [intOf])
        · obtain ⟨r0, r1, f0, f1, hr⟩ : ∃ r0 r1, XNext.f 2 2 2 0 0 0 true 0 = some r0 ∧ XNext.f 2 2 2 0 0 1 true 0 = some r1 ∧ (r0 == r1) = true := ⟨_, _, rfl, rfl, by decide +kernel⟩
          have c0 := fun W => XNext.calls 2 2 2 0 0 0 true 0 r0 W f0
          have c1 := fun W => XNext.calls 2 2 2 0 0 1 true 0 r1 W f1
          clear f0 f1
          go_upto_region 8 with (fail)
          go_region_held3 (fun W => W.cell? ⟨w.heap.size, 0, none⟩ = some (.int .i64 2) ∧ W.cell? ⟨w.heap.size, 1, none⟩ = some (.int .u64 2) ∧ W.cell? ⟨w.heap.size, 2, none⟩ = some (.int .u64 2) ∧ W.cell? ⟨w.heap.size, 3, none⟩ = some (.int .u64 0) ∧ W.cell? ⟨w.heap.size, 4, none⟩ = some (.int .u64 0) ∧ Below wr.drew.heap.size wr.drew W)
            (assumption)
            (first | (go_at_call 58; (first | (with_reducible refine (c0 _).mono ?_) | (with_reducible refine (c1 _).mono ?_)); rintro e wN ⟨rfl, hbN⟩; have hSN := S6.next (by assumption : S6 w.heap.size 2 wr.drew _) hbN; clear hbN))
          all_goals (
            have hF := hSN.2.2.2.2.2
            have hBw := (below_drew HB.out).trans (hF.mono (by show w3.heap.size ≤ wr.heap.size; omega))
            have FF := Aside0.mk (And.intro (blk_below (w := wr.drew) KT.out hF) (And.intro (blk_below (w := wr.drew) KW.out hF) (And.intro (blk_below (w := wr.drew) KB.out hF) hBw)))
            clear hF hSN hBw hS
            go_wp2
            go_roundw
            case rel => exact ⟨2, by omega, by first | rfl | go_num, FF.out.1, FF.out.2.1, FF.out.2.2.1, FF.out.2.2.2⟩
            case measure => simp [intOf])
        · go_wp2
          go_roundw
          case rel => exact ⟨0 + 1, by omega, by first | rfl | go_num, KT.out, KW.out, HB.out⟩
          case measure => first | (simp [intOf]; done) | (simp [intOf]; omega)
    · go_upto_region 6 with (fail)
      obtain ⟨w5, hw5⟩ : ∃ W, W = wr.alloc (.cells #[.bool false, .bool true] 4) := ⟨_, rfl⟩
      have kB : w5.heap[wr.heap.size]? = some FB := by rw [hw5]; exact blk_new _ _
      have hB5 : Below wr.heap.size wr w5 := by rw [hw5]; exact below_alloc (Below.refl _ _) _
      rw [← hw5]
      obtain ⟨gB, hgB⟩ : ∃ g, g = wr.heap.size := ⟨_, rfl⟩
      rw [← hgB] at kB ⊢
      have kT := blk_below KT.out hB5
      have kW := blk_below KW.out hB5
      have HB5 := Aside0.mk (HB.out.trans (hB5.mono hz3))
      clear hw5 hB5 hgB KT KW HB
      try rw [show ((1 : Nat) : Int) = 1 from rfl]
      go_loopw [25] (fun iv wr => ∃ j : Nat, j ≤ 2 ∧ iv = .int .i64 j ∧ wr.heap[w.heap.size]? = some (TB7 2) ∧ wr.heap[w.heap.size + 1]? = some WB ∧ wr.heap[gB]? = some FB ∧ Below w3.heap.size w3 wr) (fun iv _ => 2 - (intOf iv).toNat)
      case atStart => exact ⟨0, by omega, rfl, kT, kW, kB, HB5.out⟩
      case round =>
        clear kT kW kB HB5
        obtain ⟨j, hj, rfl, kT, kW, kB, hB⟩ := hrel
        have KT := Aside0.mk kT
        have KW := Aside0.mk kW
        have KB := Aside0.mk kB
        have HB := Aside0.mk hB
        have hz3 := hB.size
        have b0 := blk_cell kB 0
        have b1 := blk_cell kB 1
        simp only [List.getElem?_toArray, List.getElem?_cons_zero, List.getElem?_cons_succ] at b0 b1
        have lT := blk_lt kT
        have lW := blk_lt kW
        have lB := blk_lt kB
        have hS : S6 w.heap.size 2 wr.drew wr.drew := ⟨blk_cell kT 0, blk_cell kT 1, blk_cell kT 2, blk_cell kT 3, blk_cell kT 4, Below.refl _ _⟩
        clear kT kW kB hB
        have hjj : j = 0 ∨ j = 1 ∨ j = 2 := by omega
        rcases hjj with rfl | rfl | rfl
        · obtain ⟨r0, r1, f0, f1, hr⟩ : ∃ r0 r1, XNext.f 2 2 2 0 0 0 false 1 = some r0 ∧ XNext.f 2 2 2 0 0 1 false 1 = some r1 ∧ (r0 == r1) = true := ⟨_, _, rfl, rfl, by decide +kernel⟩
          have c0 := fun W => XNext.calls 2 2 2 0 0 0 false 1 r0 W f0
          have c1 := fun W => XNext.calls 2 2 2 0 0 1 false 1 r1 W f1
          clear f0 f1
          go_upto_region 8 with (fail)
          go_region_held3 (fun W => W.cell? ⟨w.heap.size, 0, none⟩ = some (.int .i64 2) ∧ W.cell? ⟨w.heap.size, 1, none⟩ = some (.int .u64 2) ∧ W.cell? ⟨w.heap.size, 2, none⟩ = some (.int .u64 2) ∧ W.cell? ⟨w.heap.size, 3, none⟩ = some (.int .u64 0) ∧ W.cell? ⟨w.heap.size, 4, none⟩ = some (.int .u64 0) ∧ Below wr.drew.heap.size wr.drew W)
            (assumption)
            (first | (go_at_call 58; (first | (with_reducible refine (c0 _).mono ?_) | (with_reducible refine (c1 _).mono ?_)); rintro e wN ⟨rfl, hbN⟩; have hSN := S6.next (by assumption : S6 w.heap.size 2 wr.drew _) hbN; clear hbN))
          all_goals (
            have hF := hSN.2.2.2.2.2
            have hBw := (below_drew HB.out).trans (hF.mono (by show w3.heap.size ≤ wr.heap.size; omega))
            have FF := Aside0.mk (And.intro (blk_below (w := wr.drew) KT.out hF) (And.intro (blk_below (w := wr.drew) KW.out hF) (And.intro (blk_below (w := wr.drew) KB.out hF) hBw)))
            clear hF hSN hBw hS
            go_wp2
            go_roundw
            case rel => exact ⟨1, by omega, by first | rfl | go_num, FF.out.1, FF.out.2.1, FF.out.2.2.1, FF.out.2.2.2⟩
            case measure => simp [intOf])
        · obtain ⟨r0, r1, f0, f1, hr⟩ : ∃ r0 r1, XNext.f 2 2 2 0 0 0 true 1 = some r0 ∧ XNext.f 2 2 2 0 0 1 true 1 = some r1 ∧ (r0 == r1) = true := ⟨_, _, rfl, rfl, by decide +kernel⟩
          have c0 := fun W => XNext.calls 2 2 2 0 0 0 true 1 r0 W f0
          have c1 := fun W => XNext.calls 2 2 2 0 0 1 true 1 r1 W f1
          clear f0 f1
          go_upto_region 8 with (fail)
          go_region_held3 (fun W => W.cell? ⟨w.heap.size, 0, none⟩ = some (.int .i64 2) ∧ W.cell? ⟨w.heap.size, 1, none⟩ = some (.int .u64 2) ∧ W.cell? ⟨w.heap.size, 2, none⟩ = some (.int .u64 2) ∧ W.cell? ⟨w.heap.size, 3, none⟩ = some (.int .u64 0) ∧ W.cell? ⟨w.heap.size, 4, none⟩ = some (.int .u64 0) ∧ Below wr.drew.heap.size wr.drew W)
            (assumption)
            (first | (go_at_call 58; (first | (with_reducible refine (c0 _).mono ?_) | (with_reducible refine (c1 _).mono ?_)); rintro e wN ⟨rfl, hbN⟩; have hSN := S6.next (by assumption : S6 w.heap.size 2 wr.drew _) hbN; clear hbN))
          all_goals (
            have hF := hSN.2.2.2.2.2
            have hBw := (below_drew HB.out).trans (hF.mono (by show w3.heap.size ≤ wr.heap.size; omega))
            have FF := Aside0.mk (And.intro (blk_below (w := wr.drew) KT.out hF) (And.intro (blk_below (w := wr.drew) KW.out hF) (And.intro (blk_below (w := wr.drew) KB.out hF) hBw)))
            clear hF hSN hBw hS
            go_wp2
            go_roundw
            case rel => exact ⟨2, by omega, by first | rfl | go_num, FF.out.1, FF.out.2.1, FF.out.2.2.1, FF.out.2.2.2⟩
            case measure => simp [intOf])
        · go_wp2
          go_roundw
          case rel => exact ⟨1 + 1, by omega, by first | rfl | go_num, KT.out, KW.out, HB.out⟩
          case measure => first | (simp [intOf]; done) | (simp [intOf]; omega)
    · go_upto_region 6 with (fail)
      obtain ⟨w5, hw5⟩ : ∃ W, W = wr.alloc (.cells #[.bool false, .bool true] 4) := ⟨_, rfl⟩
      have kB : w5.heap[wr.heap.size]? = some FB := by rw [hw5]; exact blk_new _ _
      have hB5 : Below wr.heap.size wr w5 := by rw [hw5]; exact below_alloc (Below.refl _ _) _
      rw [← hw5]
      obtain ⟨gB, hgB⟩ : ∃ g, g = wr.heap.size := ⟨_, rfl⟩
      rw [← hgB] at kB ⊢
      have kT := blk_below KT.out hB5
      have kW := blk_below KW.out hB5
      have HB5 := Aside0.mk (HB.out.trans (hB5.mono hz3))
      clear hw5 hB5 hgB KT KW HB
      try rw [show ((2 : Nat) : Int) = 2 from rfl]
      go_loopw [25] (fun iv wr => ∃ j : Nat, j ≤ 2 ∧ iv = .int .i64 j ∧ wr.heap[w.heap.size]? = some (TB7 2) ∧ wr.heap[w.heap.size + 1]? = some WB ∧ wr.heap[gB]? = some FB ∧ Below w3.heap.size w3 wr) (fun iv _ => 2 - (intOf iv).toNat)
      case atStart => exact ⟨0, by omega, rfl, kT, kW, kB, HB5.out⟩
      case round =>
        clear kT kW kB HB5
        obtain ⟨j, hj, rfl, kT, kW, kB, hB⟩ := hrel
        have KT := Aside0.mk kT
        have KW := Aside0.mk kW
        have KB := Aside0.mk kB
        have HB := Aside0.mk hB
        have hz3 := hB.size
        have b0 := blk_cell kB 0
        have b1 := blk_cell kB 1
        simp only [List.getElem?_toArray, List.getElem?_cons_zero, List.getElem?_cons_succ] at b0 b1
        have lT := blk_lt kT
        have lW := blk_lt kW
        have lB := blk_lt kB
        have hS : S6 w.heap.size 2 wr.drew wr.drew := ⟨blk_cell kT 0, blk_cell kT 1, blk_cell kT 2, blk_cell kT 3, blk_cell kT 4, Below.refl _ _⟩
        clear kT kW kB hB
        have hjj : j = 0 ∨ j = 1 ∨ j = 2 := by omega
        rcases hjj with rfl | rfl | rfl
        · obtain ⟨r0, r1, f0, f1, hr⟩ : ∃ r0 r1, XNext.f 2 2 2 0 0 0 false 2 = some r0 ∧ XNext.f 2 2 2 0 0 1 false 2 = some r1 ∧ (r0 == r1) = true := ⟨_, _, rfl, rfl, by decide +kernel⟩
          have c0 := fun W => XNext.calls 2 2 2 0 0 0 false 2 r0 W f0
          have c1 := fun W => XNext.calls 2 2 2 0 0 1 false 2 r1 W f1
          clear f0 f1
          go_upto_region 8 with (fail)
          go_region_held3 (fun W => W.cell? ⟨w.heap.size, 0, none⟩ = some (.int .i64 2) ∧ W.cell? ⟨w.heap.size, 1, none⟩ = some (.int .u64 2) ∧ W.cell? ⟨w.heap.size, 2, none⟩ = some (.int .u64 2) ∧ W.cell? ⟨w.heap.size, 3, none⟩ = some (.int .u64 0) ∧ W.cell? ⟨w.heap.size, 4, none⟩ = some (.int .u64 0) ∧ Below wr.drew.heap.size wr.drew W)
            (assumption)
            (first | (go_at_call 58; (first | (with_reducible refine (c0 _).mono ?_) | (with_reducible refine (c1 _).mono ?_)); rintro e wN ⟨rfl, hbN⟩; have hSN := S6.next (by assumption : S6 w.heap.size 2 wr.drew _) hbN; clear hbN))
          all_goals (
            have hF := hSN.2.2.2.2.2
            have hBw := (below_drew HB.out).trans (hF.mono (by show w3.heap.size ≤ wr.heap.size; omega))
            have FF := Aside0.mk (And.intro (blk_below (w := wr.drew) KT.out hF) (And.intro (blk_below (w := wr.drew) KW.out hF) (And.intro (blk_below (w := wr.drew) KB.out hF) hBw)))
            clear hF hSN hBw hS
            go_wp2
            go_roundw
            case rel => exact ⟨1, by omega, by first | rfl | go_num, FF.out.1, FF.out.2.1, FF.out.2.2.1, FF.out.2.2.2⟩
            case measure => simp [intOf])
        · obtain ⟨r0, r1, f0, f1, hr⟩ : ∃ r0 r1, XNext.f 2 2 2 0 0 0 true 2 = some r0 ∧ XNext.f 2 2 2 0 0 1 true 2 = some r1 ∧ (r0 == r1) = true := ⟨_, _, rfl, rfl, by decide +kernel⟩
          have c0 := fun W => XNext.calls 2 2 2 0 0 0 true 2 r0 W f0
          have c1 := fun W => XNext.calls 2 2 2 0 0 1 true 2 r1 W f1
          clear f0 f1
          go_upto_region 8 with (fail)
          go_region_held3 (fun W => W.cell? ⟨w.heap.size, 0, none⟩ = some (.int .i64 2) ∧ W.cell? ⟨w.heap.size, 1, none⟩ = some (.int .u64 2) ∧ W.cell? ⟨w.heap.size, 2, none⟩ = some (.int .u64 2) ∧ W.cell? ⟨w.heap.size, 3, none⟩ = some (.int .u64 0) ∧ W.cell? ⟨w.heap.size, 4, none⟩ = some (.int .u64 0) ∧ Below wr.drew.heap.size wr.drew W)
            (assumption)
            (first | (go_at_call 58; (first | (with_reducible refine (c0 _).mono ?_) | (with_reducible refine (c1 _).mono ?_)); rintro e wN ⟨rfl, hbN⟩; have hSN := S6.next (by assumption : S6 w.heap.size 2 wr.drew _) hbN; clear hbN))
          all_goals (
            have hF := hSN.2.2.2.2.2
            have hBw := (below_drew HB.out).trans (hF.mono (by show w3.heap.size ≤ wr.heap.size; omega))
            have FF := Aside0.mk (And.intro (blk_below (w := wr.drew) KT.out hF) (And.intro (blk_below (w := wr.drew) KW.out hF) (And.intro (blk_below (w := wr.drew) KB.out hF) hBw)))
            clear hF hSN hBw hS
            go_wp2
            go_roundw
            case rel => exact ⟨2, by omega, by first | rfl | go_num, FF.out.1, FF.out.2.1, FF.out.2.2.1, FF.out.2.2.2⟩
            case measure => simp [intOf])
        · go_wp2
          go_roundw
          case rel => exact ⟨2 + 1, by omega, by first | rfl | go_num, KT.out, KW.out, HB.out⟩
          case measure => first | (simp [intOf]; done) | (simp [intOf]; omega)
    · go_upto_region 6 with (fail)
      obtain ⟨w5, hw5⟩ : ∃ W, W = wr.alloc (.cells #[.bool false, .bool true] 4) := ⟨_, rfl⟩
      have kB : w5.heap[wr.heap.size]? = some FB := by rw [hw5]; exact blk_new _ _
      have hB5 : Below wr.heap.size wr w5 := by rw [hw5]; exact below_alloc (Below.refl _ _) _
      rw [← hw5]
      obtain ⟨gB, hgB⟩ : ∃ g, g = wr.heap.size := ⟨_, rfl⟩
      rw [← hgB] at kB ⊢
      have kT := blk_below KT.out hB5
      have kW := blk_below KW.out hB5
      have HB5 := Aside0.mk (HB.out.trans (hB5.mono hz3))
      clear hw5 hB5 hgB KT KW HB
      try rw [show ((3 : Nat) : Int) = 3 from rfl]
      go_loopw [25] (fun iv wr => ∃ j : Nat, j ≤ 2 ∧ iv = .int .i64 j ∧ wr.heap[w.heap.size]? = some (TB7 2) ∧ wr.heap[w.heap.size + 1]? = some WB ∧ wr.heap[gB]? = some FB ∧ Below w3.heap.size w3 wr) (fun iv _ => 2 - (intOf iv).toNat)
      case atStart => exact ⟨0, by omega, rfl, kT, kW, kB, HB5.out⟩
      case round =>
        clear kT kW kB HB5
        obtain ⟨j, hj, rfl, kT, kW, kB, hB⟩ := hrel
        have KT := Aside0.mk kT
        have KW := Aside0.mk kW
        have KB := Aside0.mk kB
        have HB := Aside0.mk hB
        have hz3 := hB.size
        have b0 := blk_cell kB 0
        have b1 := blk_cell kB 1
        simp only [List.getElem?_toArray, List.getElem?_cons_zero, List.getElem?_cons_succ] at b0 b1
        have lT := blk_lt kT
        have lW := blk_lt kW
        have lB := blk_lt kB
        have hS : S6 w.heap.size 2 wr.drew wr.drew := ⟨blk_cell kT 0, blk_cell kT 1, blk_cell kT 2, blk_cell kT 3, blk_cell kT 4, Below.refl _ _⟩
        clear kT kW kB hB
        have hjj : j = 0 ∨ j = 1 ∨ j = 2 := by omega
        rcases hjj with rfl | rfl | rfl
        · obtain ⟨r0, r1, f0, f1, hr⟩ : ∃ r0 r1, XNext.f 2 2 2 0 0 0 false 3 = some r0 ∧ XNext.f 2 2 2 0 0 1 false 3 = some r1 ∧ (r0 == r1) = true := ⟨_, _, rfl, rfl, by decide +kernel⟩
          have c0 := fun W => XNext.calls 2 2 2 0 0 0 false 3 r0 W f0
          have c1 := fun W => XNext.calls 2 2 2 0 0 1 false 3 r1 W f1
          clear f0 f1
          go_upto_region 8 with (fail)
          go_region_held3 (fun W => W.cell? ⟨w.heap.size, 0, none⟩ = some (.int .i64 2) ∧ W.cell? ⟨w.heap.size, 1, none⟩ = some (.int .u64 2) ∧ W.cell? ⟨w.heap.size, 2, none⟩ = some (.int .u64 2) ∧ W.cell? ⟨w.heap.size, 3, none⟩ = some (.int .u64 0) ∧ W.cell? ⟨w.heap.size, 4, none⟩ = some (.int .u64 0) ∧ Below wr.drew.heap.size wr.drew W)
            (assumption)
            (first | (go_at_call 58; (first | (with_reducible refine (c0 _).mono ?_) | (with_reducible refine (c1 _).mono ?_)); rintro e wN ⟨rfl, hbN⟩; have hSN := S6.next (by assumption : S6 w.heap.size 2 wr.drew _) hbN; clear hbN))
          all_goals (
            have hF := hSN.2.2.2.2.2
            have hBw := (below_drew HB.out).trans (hF.mono (by show w3.heap.size ≤ wr.heap.size; omega))
            have FF := Aside0.mk (And.intro (blk_below (w := wr.drew) KT.out hF) (And.intro (blk_below (w := wr.drew) KW.out hF) (And.intro (blk_below (w := wr.drew) KB.out hF) hBw)))
            clear hF hSN hBw hS
            go_wp2
            go_roundw
            case rel => exact ⟨1, by omega, by first | rfl | go_num, FF.out.1, FF.out.2.1, FF.out.2.2.1, FF.out.2.2.2⟩
            case measure => simp [intOf])
        · obtain ⟨r0, r1, f0, f1, hr⟩ : ∃ r0 r1, XNext.f 2 2 2 0 0 0 true 3 = some r0 ∧ XNext.f 2 2 2 0 0 1 true 3 = some r1 ∧ (r0 == r1) = true := ⟨_, _, rfl, rfl, by decide +kernel⟩
          have c0 := fun W => XNext.calls 2 2 2 0 0 0 true 3 r0 W f0
          have c1 := fun W => XNext.calls 2 2 2 0 0 1 true 3 r1 W f1
          clear f0 f1
          go_upto_region 8 with (fail)
          go_region_held3 (fun W => W.cell? ⟨w.heap.size, 0, none⟩ = some (.int .i64 2) ∧ W.cell? ⟨w.heap.size, 1, none⟩ = some (.int .u64 2) ∧ W.cell? ⟨w.heap.size, 2, none⟩ = some (.int .u64 2) ∧ W.cell? ⟨w.heap.size, 3, none⟩ = some (.int .u64 0) ∧ W.cell? ⟨w.heap.size, 4, none⟩ = some (.int .u64 0) ∧ Below wr.drew.heap.size wr.drew W)
            (assumption)
            (first | (go_at_call 58; (first | (with_reducible refine (c0 _).mono ?_) | (with_reducible refine (c1 _).mono ?_)); rintro e wN ⟨rfl, hbN⟩; have hSN := S6.next (by assumption : S6 w.heap.size 2 wr.drew _) hbN; clear hbN))
          all_goals (
            have hF := hSN.2.2.2.2.2
            have hBw := (below_drew HB.out).trans (hF.mono (by show w3.heap.size ≤ wr.heap.size; omega))
            have FF := Aside0.mk (And.intro (blk_below (w := wr.drew) KT.out hF) (And.intro (blk_below (w := wr.drew) KW.out hF) (And.intro (blk_below (w := wr.drew) KB.out hF) hBw)))
            clear hF hSN hBw hS
            go_wp2
            go_roundw
            case rel => exact ⟨2, by omega, by first | rfl | go_num, FF.out.1, FF.out.2.1, FF.out.2.2.1, FF.out.2.2.2⟩
            case measure => simp [intOf])
        · go_wp2
          go_roundw
          case rel => exact ⟨3 + 1, by omega, by first | rfl | go_num, KT.out, KW.out, HB.out⟩
          case measure => first | (simp [intOf]; done) | (simp [intOf]; omega)
    · have g0 := blk_cell KW.out 0
      have g1 := blk_cell KW.out 1
      have gf := blk_frozen KW.out
      simp only [List.getElem?_toArray, List.getElem?_cons_zero, List.getElem?_cons_succ] at g0 g1
      go_wp2
      have hr := blk_set (blk_set KW.out 0 (.slice none 0 0)) 1 (.int .i64 0)
      exact bodyPost_ret (results_ct rfl _ _ (w.heap.size + 1) 37 #[.slice none 0 0, .int .i64 0] (0, 0) _ rfl hr Tryd.underlying37 rfl (by kernel_rfl)) rfl ⟨⟨_, _, _, _, rfl⟩, Below.setCell (p := ⟨w.heap.size + 1, 1, none⟩) (Below.setCell (p := ⟨w.heap.size + 1, 0, none⟩) (HB3.out.trans (HB.out.mono HB3.out.size)) (by show w.heap.size ≤ w.heap.size + 1; omega) _) (by show w.heap.size ≤ w.heap.size + 1; omega) _⟩
set_option maxRecDepth 100000 in
set_option maxHeartbeats 8000000 in
theorem tri_first (w : World) (hG : Six w) : Calls Tryd.prog 55 #[.agg #[.int .i64 2, .int .u64 2, .int .u64 4, .int .u64 0, .int .u64 0]] w fun e w' => (∃ (A : Option Addr) (n c : Nat) (o : Int), e = .returned (.tuple #[.agg #[.slice A n c, .int .i64 o], .bool true])) ∧ Below w.heap.size w w' := by
  have hbs := fun W hW => XBeside.calls 2 0 0 0 tri0 none W hW tri0_f
  simp only [errW_none] at hbs
  have HBS := Aside0.mk hbs
  have HG := Aside0.mk hG
  clear hbs hG
  go_enter Tryd.func55, Tryd.ntmps55
  go_wp2_with fail
  obtain ⟨w2, hw2⟩ : ∃ W, W = (w.alloc (.cells #[.int .i64 2, .int .u64 2, .int .u64 4, .int .u64 0, .int .u64 0] 29)).alloc (.cells #[.slice none 0 0, .int .i64 0] 37) := ⟨_, rfl⟩
  have kT : w2.heap[w.heap.size]? = some (TB7 4) := by rw [hw2]; exact blk_alloc (blk_new _ _) _
  have kW : w2.heap[w.heap.size + 1]? = some WB := by
    have := blk_new (w.alloc (.cells #[.int .i64 2, .int .u64 2, .int .u64 4, .int .u64 0, .int .u64 0] 29)) WB
    rw [World.size_alloc] at this
    rw [hw2]; exact this
  have hB2 : Below w.heap.size w w2 := by rw [hw2]; exact below_alloc (below_alloc (Below.refl _ _) _) _
  rw [← hw2]
  have HB2 := Aside0.mk hB2
  clear hw2 hB2
  refine (HBS.out w2 (HG.out.below HB2.out)).mono ?_
  rintro e w3 ⟨v, rfl, hR, hb3⟩
  obtain ⟨A, c, rfl, hlc, hC⟩ := Kd.R_reads hR
  rw [tri0_len]
  rw [tri0_len] at hlc
  have kT := blk_below kT hb3
  have kW := blk_below kW hb3
  have HB3 := Aside0.mk (HB2.out.trans (hb3.mono HB2.out.size))
  have HC := Aside0.mk hC
  have HLC := Aside0.mk hlc
  have hw4 : IntKind.i64.wrap (3 + 1) = 4 := by decide
  clear hR hC hlc hb3 HBS
  go_wp2_with fail
  go_loopw [20] (fun iv wr => ∃ n : Nat, n ≤ 1 ∧ iv = .int .i64 n ∧ wr.heap[w.heap.size]? = some (TB7 4) ∧ wr.heap[w.heap.size + 1]? = some WB ∧ Below w3.heap.size w3 wr) (fun iv _ => 1 - (intOf iv).toNat)
  case atStart => exact ⟨0, by omega, rfl, kT, kW, Below.refl _ _⟩
  case round =>
    clear kT kW
    obtain ⟨n, hn, rfl, kT, kW, hB⟩ := hrel
    have KT := Aside0.mk kT
    have KW := Aside0.mk kW
    have HB := Aside0.mk hB
    have hz3 := hB.size
    have lT := blk_lt kT
    have lW := blk_lt kW
    clear kT kW hB
    have hnn : n = 0 ∨ n = 1 := by omega
    rcases hnn with rfl | rfl
    · go_upto_region 6 with (fail)
      obtain ⟨w5, hw5⟩ : ∃ W, W = wr.alloc (.cells #[.bool false, .bool true] 4) := ⟨_, rfl⟩
      have kB : w5.heap[wr.heap.size]? = some FB := by rw [hw5]; exact blk_new _ _
      have hB5 : Below wr.heap.size wr w5 := by rw [hw5]; exact below_alloc (Below.refl _ _) _
      rw [← hw5]
      obtain ⟨gB, hgB⟩ : ∃ g, g = wr.heap.size := ⟨_, rfl⟩
      rw [← hgB] at kB ⊢
      have kT := blk_below KT.out hB5
      have kW := blk_below KW.out hB5
      have HB5 := Aside0.mk (HB.out.trans (hB5.mono hz3))
      clear hw5 hB5 hgB KT KW HB
      try rw [show ((0 : Nat) : Int) = 0 from rfl]
      go_loopw [25] (fun iv wr => ∃ j : Nat, j ≤ 2 ∧ iv = .int .i64 j ∧ wr.heap[w.heap.size]? = some (TB7 4) ∧ wr.heap[w.heap.size + 1]? = some WB ∧ wr.heap[gB]? = some FB ∧ Below w3.heap.size w3 wr) (fun iv _ => 2 - (intOf iv).toNat)
      case atStart => exact ⟨0, by omega, rfl, kT, kW, kB, HB5.out⟩
      case round =>
        clear kT kW kB HB5
        obtain ⟨j, hj, rfl, kT, kW, kB, hB⟩ := hrel
        have KT := Aside0.mk kT
        have KW := Aside0.mk kW
        have KB := Aside0.mk kB
        have HB := Aside0.mk hB
        have hz3 := hB.size
        have b0 := blk_cell kB 0
        have b1 := blk_cell kB 1
        simp only [List.getElem?_toArray, List.getElem?_cons_zero, List.getElem?_cons_succ] at b0 b1
        have lT := blk_lt kT
        have lW := blk_lt kW
        have lB := blk_lt kB
        have hS : S6 w.heap.size 4 wr.drew wr.drew := ⟨blk_cell kT 0, blk_cell kT 1, blk_cell kT 2, blk_cell kT 3, blk_cell kT 4, Below.refl _ _⟩
        clear kT kW kB hB
        have hjj : j = 0 ∨ j = 1 ∨ j = 2 := by omega
        rcases hjj with rfl | rfl | rfl
        · obtain ⟨r0, r1, f0, f1, hr⟩ : ∃ r0 r1, XNext.f 2 2 4 0 0 0 false 0 = some r0 ∧ XNext.f 2 2 4 0 0 1 false 0 = some r1 ∧ (r0 == r1) = true := ⟨_, _, rfl, rfl, by decide +kernel⟩
          have c0 := fun W => XNext.calls 2 2 4 0 0 0 false 0 r0 W f0
          have c1 := fun W => XNext.calls 2 2 4 0 0 1 false 0 r1 W f1
          clear f0 f1
          go_upto_region 8 with (fail)
          go_region_held3 (fun W => W.cell? ⟨w.heap.size, 0, none⟩ = some (.int .i64 2) ∧ W.cell? ⟨w.heap.size, 1, none⟩ = some (.int .u64 2) ∧ W.cell? ⟨w.heap.size, 2, none⟩ = some (.int .u64 4) ∧ W.cell? ⟨w.heap.size, 3, none⟩ = some (.int .u64 0) ∧ W.cell? ⟨w.heap.size, 4, none⟩ = some (.int .u64 0) ∧ Below wr.drew.heap.size wr.drew W)
            (assumption)
            (first | (go_at_call 58; (first | (with_reducible refine (c0 _).mono ?_) | (with_reducible refine (c1 _).mono ?_)); rintro e wN ⟨rfl, hbN⟩; have hSN := S6.next (by assumption : S6 w.heap.size 4 wr.drew _) hbN; clear hbN))
          all_goals (
            have hF := hSN.2.2.2.2.2
            have hBw := (below_drew HB.out).trans (hF.mono (by show w3.heap.size ≤ wr.heap.size; omega))
            have FF := Aside0.mk (And.intro (blk_below (w := wr.drew) KT.out hF) (And.intro (blk_below (w := wr.drew) KW.out hF) (And.intro (blk_below (w := wr.drew) KB.out hF) hBw)))
            clear hF hSN hBw hS
            go_wp2
            go_roundw
            case rel => exact ⟨1, by omega, by first | rfl | go_num, FF.out.1, FF.out.2.1, FF.out.2.2.1, FF.out.2.2.2⟩
            case measure => simp [intOf])
        · obtain ⟨r0, r1, f0, f1, hr⟩ : ∃ r0 r1, XNext.f 2 2 4 0 0 0 true 0 = some r0 ∧ XNext.f 2 2 4 0 0 1 true 0 = some r1 ∧ (r0 == r1) = true := ⟨_, _, rfl, rfl, by decide +kernel⟩
          have c0 := fun W => XNext.calls 2 2 4 0 0 0 true 0 r0 W f0
          have c1 := fun W => XNext.calls 2 2 4 0 0 1 true 0 r1 W f1
          clear f0 f1
          go_upto_region 8 with (fail)
          go_region_held3 (fun W => W.cell? ⟨w.heap.size, 0, none⟩ = some (.int .i64 2) ∧ W.cell? ⟨w.heap.size, 1, none⟩ = some (.int .u64 2) ∧ W.cell? ⟨w.heap.size, 2, none⟩ = some (.int .u64 4) ∧ W.cell? ⟨w.heap.size, 3, none⟩ = some (.int .u64 0) ∧ W.cell? ⟨w.heap.size, 4, none⟩ = some (.int .u64 0) ∧ Below wr.drew.heap.size wr.drew W)
            (assumption)
            (first | (go_at_call 58; (first | (with_reducible refine (c0 _).mono ?_) | (with_reducible refine (c1 _).mono ?_)); rintro e wN ⟨rfl, hbN⟩; have hSN := S6.next (by assumption : S6 w.heap.size 4 wr.drew _) hbN; clear hbN))
          all_goals (
            have hF := hSN.2.2.2.2.2
            have hBw := (below_drew HB.out).trans (hF.mono (by show w3.heap.size ≤ wr.heap.size; omega))
            have FF := Aside0.mk (And.intro (blk_below (w := wr.drew) KT.out hF) (And.intro (blk_below (w := wr.drew) KW.out hF) (And.intro (blk_below (w := wr.drew) KB.out hF) hBw)))
            clear hF hSN hBw hS
            go_wp2
            go_roundw
            case rel => exact ⟨2, by omega, by first | rfl | go_num, FF.out.1, FF.out.2.1, FF.out.2.2.1, FF.out.2.2.2⟩
            case measure => simp [intOf])
        · go_wp2
          go_roundw
          case rel => exact ⟨0 + 1, by omega, by first | rfl | go_num, KT.out, KW.out, HB.out⟩
          case measure => first | (simp [intOf]; done) | (simp [intOf]; omega)
    · go_upto_region 6 with (fail)
      obtain ⟨w5, hw5⟩ : ∃ W, W = wr.alloc (.cells #[.bool false, .bool true] 4) := ⟨_, rfl⟩
      have kB : w5.heap[wr.heap.size]? = some FB := by rw [hw5]; exact blk_new _ _
      have hB5 : Below wr.heap.size wr w5 := by rw [hw5]; exact below_alloc (Below.refl _ _) _
      rw [← hw5]
      obtain ⟨gB, hgB⟩ : ∃ g, g = wr.heap.size := ⟨_, rfl⟩
      rw [← hgB] at kB ⊢
      have kT := blk_below KT.out hB5
      have kW := blk_below KW.out hB5
      have HB5 := Aside0.mk (HB.out.trans (hB5.mono hz3))
      clear hw5 hB5 hgB KT KW HB
      try rw [show ((1 : Nat) : Int) = 1 from rfl]
      go_loopw [25] (fun iv wr => ∃ j : Nat, j ≤ 0 ∧ iv = .int .i64 j ∧ wr.heap[w.heap.size]? = some (TB7 4) ∧ wr.heap[w.heap.size + 1]? = some WB ∧ wr.heap[gB]? = some FB ∧ Below w3.heap.size w3 wr) (fun iv _ => 0 - (intOf iv).toNat)
      case atStart => exact ⟨0, by omega, rfl, kT, kW, kB, HB5.out⟩
      case round =>
        clear kT kW kB HB5
        obtain ⟨j, hj, rfl, kT, kW, kB, hB⟩ := hrel
        have KT := Aside0.mk kT
        have KW := Aside0.mk kW
        have KB := Aside0.mk kB
        have HB := Aside0.mk hB
        have hz3 := hB.size
        have b0 := blk_cell kB 0
        have b1 := blk_cell kB 1
        simp only [List.getElem?_toArray, List.getElem?_cons_zero, List.getElem?_cons_succ] at b0 b1
        have lT := blk_lt kT
        have lW := blk_lt kW
        have lB := blk_lt kB
        have hS : S6 w.heap.size 4 wr.drew wr.drew := ⟨blk_cell kT 0, blk_cell kT 1, blk_cell kT 2, blk_cell kT 3, blk_cell kT 4, Below.refl _ _⟩
        clear kT kW kB hB
        have hjj : j = 0 := by omega
        rcases hjj with rfl
        · obtain ⟨r0, r1, f0, f1, hr⟩ : ∃ r0 r1, XNext.f 2 2 4 0 0 0 false 1 = some r0 ∧ XNext.f 2 2 4 0 0 1 false 1 = some r1 ∧ (r0 == r1) = false := ⟨_, _, rfl, rfl, by decide +kernel⟩
          have c0 := fun W => XNext.calls 2 2 4 0 0 0 false 1 r0 W f0
          have c1 := fun W => XNext.calls 2 2 4 0 0 1 false 1 r1 W f1
          clear f0 f1
          go_upto_region 8 with (fail)
          go_region_held3 (fun W => W.cell? ⟨w.heap.size, 0, none⟩ = some (.int .i64 2) ∧ W.cell? ⟨w.heap.size, 1, none⟩ = some (.int .u64 2) ∧ W.cell? ⟨w.heap.size, 2, none⟩ = some (.int .u64 4) ∧ W.cell? ⟨w.heap.size, 3, none⟩ = some (.int .u64 0) ∧ W.cell? ⟨w.heap.size, 4, none⟩ = some (.int .u64 0) ∧ Below wr.drew.heap.size wr.drew W)
            (assumption)
            (first | (go_at_call 58; (first | (with_reducible refine (c0 _).mono ?_) | (with_reducible refine (c1 _).mono ?_)); rintro e wN ⟨rfl, hbN⟩; have hSN := S6.next (by assumption : S6 w.heap.size 4 wr.drew _) hbN; clear hbN))
          all_goals (
            have hF := hSN.2.2.2.2.2
            have hBw := (below_drew HB.out).trans (hF.mono (by show w3.heap.size ≤ wr.heap.size; omega))
            have FF := Aside0.mk (And.intro (blk_below (w := wr.drew) KT.out hF) (And.intro (blk_below (w := wr.drew) KW.out hF) (And.intro (blk_below (w := wr.drew) KB.out hF) hBw)))
            clear hF hSN hBw hS
            obtain ⟨i0, hi0, _, _, _⟩ := info_parts info65
            have hcut := cut_to (P := Tryd.prog) 34 65 .i64 Tryd.underlying34 hi0 A 3 c 1 (by decide) (by decide) HLC.out
            rw [show (1 : Int).toNat = 1 from rfl] at hcut
            have hC1 := Kd.C_take (m := 1) (Kd.C_below HC.out FF.out.2.2.2) (by rw [tri0_len]; decide)
            have hlen1 : (tri0.take 1).length = 1 := by decide +kernel
            have cl := XClone.calls A c (tri0.take 1) (tri0.take 1) _ hC1 (by rw [hlen1]; have := HLC.out; omega) (by unfold XClone.f; rw [if_pos (by rw [hlen1]; decide)])
            have co := fun A9 c9 W h1 h2 => XOf.calls A9 c9 (tri0.take 1) (ofL (tri0.take 1)) W h1 h2 (by unfold XOf.f; rw [if_pos (by rw [hlen1]; decide)])
            have CO := Aside0.mk co
            have CL := Aside0.mk cl
            clear hC1 cl co hi0 b0 b1
            rw [hlen1] at CL CO
            go_wp2_with fail
            refine CL.out.mono ?_
            rintro e wC ⟨v9, rfl, hR9, hb9⟩
            obtain ⟨A9, c9, rfl, hl9, hC9⟩ := Kd.R_reads hR9
            have kW9 := blk_below FF.out.2.1 hb9
            have hz9 := FF.out.2.2.2.size
            have HB9 := Aside0.mk (FF.out.2.2.2.trans (hb9.mono hz9))
            rw [hlen1] at hl9 hC9 ⊢
            have co9 := CO.out A9 c9 _ hC9 hl9
            have CO9 := Aside0.mk co9
            clear hR9 hb9 hC9 hl9 co9 CO CL hcut
            go_wp2_with fail
            refine CO9.out.mono ?_
            rintro e wO ⟨v10, rfl, hR10, hb10⟩
            have kW10 := blk_below kW9 hb10
            have HB10 := Aside0.mk (HB9.out.trans (hb10.mono HB9.out.size))
            obtain ⟨A10, c10, rfl, _, _⟩ := Kd.R_reads hR10
            clear hR10 hb10 CO9
            have g0 := blk_cell kW10 0
            have g1 := blk_cell kW10 1
            have gf := blk_frozen kW10
            have KW10 := Aside0.mk kW10
            simp only [List.getElem?_toArray, List.getElem?_cons_zero, List.getElem?_cons_succ] at g0 g1
            clear kW10 kW9
            go_wp2
            have hr := blk_set (blk_set KW10.out 0 (.slice A10 (ofL (tri0.take 1)).length c10)) 1 (.int .i64 1)
            exact bodyPost_ret (results_ct rfl _ _ (w.heap.size + 1) 37 #[.slice A10 (ofL (tri0.take 1)).length c10, .int .i64 1] (0, 0) _ rfl hr Tryd.underlying37 rfl (by kernel_rfl)) rfl ⟨⟨_, _, _, _, rfl⟩, Below.setCell (p := ⟨w.heap.size + 1, 1, none⟩) (Below.setCell (p := ⟨w.heap.size + 1, 0, none⟩) (HB3.out.trans (HB10.out.mono HB3.out.size)) (by show w.heap.size ≤ w.heap.size + 1; omega) _) (by show w.heap.size ≤ w.heap.size + 1; omega) _⟩)
theorem check2 (b1 : Int) (h : b1 = 2 ∨ b1 = 4) (w : World) : Calls Tryd.prog 53 #[.agg #[.int .i64 2, .int .u64 2, .int .u64 b1, .int .u64 0, .int .u64 0]] w fun e w' => e = .returned .nilIface ∧ Below w.heap.size w w' := by
  have h1 : XTCheck.f 2 2 b1 0 0 = some none := by rcases h with rfl | rfl <;> decide +kernel
  have := XTCheck.calls 2 2 b1 0 0 none w h1
  rwa [errW_none] at this
set_option maxRecDepth 100000 in
set_option maxHeartbeats 4000000 in
theorem isoCheck2 (b1 : Int) (ok : Bool) (h : b1 = 2 ∨ b1 = 4) (w : World) (hG : Six w)
    (htri : ∀ W, Six W → Calls Tryd.prog 55 #[.agg #[.int .i64 2, .int .u64 2, .int .u64 b1, .int .u64 0, .int .u64 0]] W fun e w' => (∃ (A : Option Addr) (n c : Nat) (o : Int), e = .returned (.tuple #[.agg #[.slice A n c, .int .i64 o], .bool ok])) ∧ Below W.heap.size W w') :
    Calls Tryd.prog 17 #[.agg #[.int .i64 2, .int .u64 2, .int .u64 b1, .int .u64 0, .int .u64 0]] w fun e w' => (∃ (A : Option Addr) (n c : Nat) (o : Int), e = .returned (.tuple #[.agg #[.slice A n c, .int .i64 o], .bool ok, .nilIface])) ∧ Below w.heap.size w w' := by
  have HT := Aside0.mk htri
  have HG := Aside0.mk hG
  have hck := fun W => check2 b1 h W
  have HCK := Aside0.mk hck
  clear htri hG hck h
  go_enter Tryd.func17, Tryd.ntmps17
  go_wp2_with fail
  obtain ⟨w2, hw2⟩ : ∃ W, W = (w.alloc (.cells #[.int .i64 2, .int .u64 2, .int .u64 b1, .int .u64 0, .int .u64 0] 29)).alloc (.cells #[.slice none 0 0, .int .i64 0] 37) := ⟨_, rfl⟩
  have kT : w2.heap[w.heap.size]? = some (TB7 b1) := by rw [hw2]; exact blk_alloc (blk_new _ _) _
  have kW : w2.heap[w.heap.size + 1]? = some WB := by
    have := blk_new (w.alloc (.cells #[.int .i64 2, .int .u64 2, .int .u64 b1, .int .u64 0, .int .u64 0] 29)) WB
    rw [World.size_alloc] at this
    rw [hw2]; exact this
  have hB2 : Below w.heap.size w w2 := by rw [hw2]; exact below_alloc (below_alloc (Below.refl _ _) _) _
  rw [← hw2]
  have HB2 := Aside0.mk hB2
  clear hw2 hB2
  refine (HCK.out w2).mono ?_
  rintro e w3 ⟨rfl, hb3⟩
  have kT := blk_below kT hb3
  have kW := blk_below kW hb3
  have HB3 := Aside0.mk (HB2.out.trans (hb3.mono HB2.out.size))
  have t0 := blk_cell kT 0
  have t1 := blk_cell kT 1
  have t2 := blk_cell kT 2
  have t3 := blk_cell kT 3
  have t4 := blk_cell kT 4
  simp only [List.getElem?_toArray, List.getElem?_cons_zero, List.getElem?_cons_succ] at t0 t1 t2 t3 t4
  clear hb3 kT HCK
  go_wp2_with fail
  refine (HT.out _ (HG.out.below HB3.out)).mono ?_
  rintro e w4 ⟨⟨A, n, c, o, rfl⟩, hb4⟩
  have kW := blk_below kW hb4
  have hz3 := HB3.out.size
  have HB4 := Aside0.mk (HB3.out.trans (hb4.mono hz3))
  have KW := Aside0.mk kW
  have hz4 := HB4.out.size
  have g0 := blk_cell kW 0
  have g1 := blk_cell kW 1
  have gf := blk_frozen kW
  simp only [List.getElem?_toArray, List.getElem?_cons_zero, List.getElem?_cons_succ] at g0 g1
  have lW := blk_lt kW
  clear t0 t1 t2 t3 t4 hb4 kW HT
  go_wp2
  have hr := fun ob : Obj => blk_alloc (blk_set (blk_set KW.out 0 (.slice A n c)) 1 (.int .i64 o)) ob
  refine bodyPost_ret (results_ctt rfl _ _ (w.heap.size + 1) 37 #[.slice A n c, .int .i64 o] (0, 0) _ rfl (hr _) Tryd.underlying37 rfl (by kernel_rfl)) rfl ⟨⟨_, _, _, _, rfl⟩, ?_⟩
  exact below_alloc2 (Below.setCell (p := ⟨w.heap.size + 1, 1, none⟩) (Below.setCell (p := ⟨w.heap.size + 1, 0, none⟩) HB4.out (by show w.heap.size ≤ w.heap.size + 1; omega) _) (by show w.heap.size ≤ w.heap.size + 1; omega) _) (by simp only [World.size_setCell]; exact hz4) _
theorem keeps0_f : iso_Keeps.f 70 2 2 4 0 0 0 = some true := by decide +kernel
theorem keeps1_f : iso_Keeps.f 70 2 2 4 0 0 1 = some false := by decide +kernel
set_option maxRecDepth 100000 in
set_option maxHeartbeats 4000000 in
theorem awake07_any (w : World) (hG : Six w) : Calls Tryd.prog 13 #[] w fun e w' => e = .returned (.bool true) ∧ Below w.heap.size w w' := by
  have c1 := fun W hW => isoCheck2 4 true (.inr rfl) W hW (fun W2 h2 => tri_first W2 h2)
  have c2 := fun W hW => isoCheck2 2 false (.inl rfl) W hW (fun W2 h2 => tri_same W2 h2)
  have c3 := fun W hW => iso_Keeps.calls 70 2 2 4 0 0 0 true W hW keeps0_f
  have c4 := fun W hW => iso_Keeps.calls 70 2 2 4 0 0 1 false W hW keeps1_f
  have C1 := Aside0.mk c1
  have C2 := Aside0.mk c2
  have C3 := Aside0.mk c3
  have C4 := Aside0.mk c4
  have HG := Aside0.mk hG
  clear c1 c2 c3 c4 hG
  go_enter Tryd.func13, Tryd.ntmps13
  go_wp2_with fail
  obtain ⟨w1, hw1⟩ : ∃ W, W = w.alloc (.cells #[.int .i64 2, .int .u64 2, .int .u64 4, .int .u64 0, .int .u64 0] 29) := ⟨_, rfl⟩
  have kT : w1.heap[w.heap.size]? = some (TB7 4) := by rw [hw1]; exact blk_new _ _
  have hB1 : Below w.heap.size w w1 := by rw [hw1]; exact below_alloc (Below.refl _ _) _
  rw [← hw1]
  have HB1 := Aside0.mk hB1
  clear hw1 hB1
  refine (C1.out _ (HG.out.below HB1.out)).mono ?_
  rintro e w2 ⟨⟨A, n, c, o, rfl⟩, hb2⟩
  have kT := blk_below kT hb2
  have HB2 := Aside0.mk (HB1.out.trans (hb2.mono HB1.out.size))
  clear hb2
  go_wp2_with fail
  obtain ⟨w3, hw3⟩ : ∃ W, W = w2.alloc (.cells #[.slice A n c, .int .i64 o] 37) := ⟨_, rfl⟩
  have hB3 : Below w2.heap.size w2 w3 := by rw [hw3]; exact below_alloc (Below.refl _ _) _
  rw [← hw3]
  have kT := blk_below kT hB3
  have HB3 := Aside0.mk (HB2.out.trans (hB3.mono HB2.out.size))
  clear hw3 hB3
  refine (C2.out _ (HG.out.below HB3.out)).mono ?_
  rintro e w4 ⟨⟨A2, n2, cc2, o2, rfl⟩, hb4⟩
  have kT := blk_below kT hb4
  have HB4 := Aside0.mk (HB3.out.trans (hb4.mono HB3.out.size))
  clear hb4
  have lT := blk_lt kT
  have hz4 := HB4.out.size
  have KT := Aside0.mk kT
  have t0 := fun ob : Obj => blk_cell (blk_alloc kT ob) 0
  have t1 := fun ob : Obj => blk_cell (blk_alloc kT ob) 1
  have t2 := fun ob : Obj => blk_cell (blk_alloc kT ob) 2
  have t3 := fun ob : Obj => blk_cell (blk_alloc kT ob) 3
  have t4 := fun ob : Obj => blk_cell (blk_alloc kT ob) 4
  simp only [List.getElem?_toArray, List.getElem?_cons_zero, List.getElem?_cons_succ] at t0 t1 t2 t3 t4
  clear kT
  go_wp2_with fail
  obtain ⟨w5, hw5⟩ : ∃ W, W = w4.alloc (.cells #[.slice A2 n2 cc2, .int .i64 o2] 37) := ⟨_, rfl⟩
  have hB5 : Below w4.heap.size w4 w5 := by rw [hw5]; exact below_alloc (Below.refl _ _) _
  rw [← hw5]
  have kT := blk_below KT.out hB5
  have HB5 := Aside0.mk (HB4.out.trans (hB5.mono hz4))
  clear hw5 hB5 t0 t1 t2 t3 t4
  refine (C3.out _ (HG.out.below HB5.out)).mono ?_
  rintro e w6 ⟨rfl, hb6⟩
  have kT := blk_below kT hb6
  have HB6 := Aside0.mk (HB5.out.trans (hb6.mono HB5.out.size))
  clear hb6
  have t0 := blk_cell kT 0
  have t1 := blk_cell kT 1
  have t2 := blk_cell kT 2
  have t3 := blk_cell kT 3
  have t4 := blk_cell kT 4
  simp only [List.getElem?_toArray, List.getElem?_cons_zero, List.getElem?_cons_succ] at t0 t1 t2 t3 t4
  go_wp2_with fail
  refine (C4.out _ (HG.out.below HB6.out)).mono ?_
  rintro e w7 ⟨rfl, hb7⟩
  have HB7 := Aside0.mk (HB6.out.trans (hb7.mono HB6.out.size))
  clear hb7 t0 t1 t2 t3 t4 kT
  go_wp2
  go_ret
  exact ⟨rfl, HB7.out⟩
def XAwake07.f : Option Bool := some true
theorem XAwake07.calls (r : Bool) (w : World) (hGSix : Six w) (h : XAwake07.f = some r) : Calls Tryd.prog 13 #[] w fun e w' => e = .returned (.bool r) ∧ Below w.heap.size w w' := by
  obtain rfl := Option.some.inj h
  exact awake07_any w hGSix
end Go.Proofs.YtaeenefdbahfoaaDoor
namespace Go.Proofs.YtaeenefdbahfoaaDoor
set_option linter.unusedSimpArgs false
set_option linter.unusedVariables false
open Go.RowKit Go.Proofs.YtaeenefdbahfoaaDoorW.PrintWords Go.Proofs.YtaeenefdbahfoaaDoorW.PrintLast Go.Proofs.YtaeenefdbahfoaaDoorW.PrintMore
open H
open Go.RowKit
/-- a table's number, of those that may be -/
def andM (x m : Int) : Int := Go.bits .and .u64 x m
set_option maxRecDepth 100000 in
set_option maxHeartbeats 4000000 in
theorem some5_2 (l b0 b1 s0 s1 : Int) (w : World) (ht : l % 256 % 3 = 1) :
    Calls Tryd.prog 14 #[.agg #[.int .i64 l, .int .u64 b0, .int .u64 b1, .int .u64 s0, .int .u64 s1]] w fun e w' => e = .returned (.agg #[.int .i64 (2), .int .u64 (andM b0 14), .int .u64 (andM b1 14), .int .u64 (andM s0 15), .int .u64 (andM s1 15)]) ∧ Below w.heap.size w w' := by
  have ho := fun W => honeycomblaw05_Own.calls l b0 b1 s0 s1 l b0 b1 s0 s1 W rfl
  have hand : Go.bits .and .i64 l 255 = l % 256 := by rw [and_255]
  have hmod : (l % 256).tmod 3 = 1 := by rw [Int.tmod_eq_emod_of_nonneg (by omega), ht]
  have hnot : Go.bits .andNot .u64 15 1 = 14 := by decide
  go_enter Tryd.func14, Tryd.ntmps14
  go_upto_region 1 with (fail)
  obtain ⟨w1, hw1⟩ : ∃ w1, w1 = (w.alloc (.cells #[.int .i64 l, .int .u64 b0, .int .u64 b1, .int .u64 s0, .int .u64 s1] 25)).alloc (.cells #[.int .i64 0, .int .u64 0, .int .u64 0, .int .u64 0, .int .u64 0] 29) := ⟨_, rfl⟩
  have hsz1 : (w.alloc (.cells #[.int .i64 l, .int .u64 b0, .int .u64 b1, .int .u64 s0, .int .u64 s1] 25)).heap.size = w.heap.size + 1 := by simp
  have hbx : w1.heap[w.heap.size]? = some (.cells #[.int .i64 l, .int .u64 b0, .int .u64 b1, .int .u64 s0, .int .u64 s1] 25 (0, 0)) := by
    rw [hw1]
    exact blk_alloc (blk_new w _) _
  have hbr : w1.heap[w.heap.size + 1]? = some (.cells #[.int .i64 0, .int .u64 0, .int .u64 0, .int .u64 0, .int .u64 0] 29 (0, 0)) := by
    rw [hw1, ← hsz1]
    exact blk_new _ _
  have hB1 : Below w.heap.size w w1 := by
    rw [hw1]
    exact below_alloc (below_alloc (Below.refl _ _) _) _
  rw [← hw1]
  clear hw1 hsz1
  have x0 := blk_cell hbx 0
  have x1 := blk_cell hbx 1
  have x2 := blk_cell hbx 2
  have x3 := blk_cell hbx 3
  have x4 := blk_cell hbx 4
  simp at x0 x1 x2 x3 x4
  have BX := Aside0.mk hbx
  have BR := Aside0.mk hbr
  have HB1 := Aside0.mk hB1
  have hz1 := blk_lt hbr
  clear hbx hbr hB1
  go_wp2_with fail
  refine (ho _).mono ?_
  rintro e w2 ⟨rfl, hb⟩
  have hz2 := hb.size
  have BX2 := Aside0.mk (blk_below BX.out hb)
  have BR2 := Aside0.mk (blk_below BR.out hb)
  have HB2 := Aside0.mk (HB1.out.trans (hb.mono (by omega)))
  clear hb x0 x1 x2 x3 x4
  go_upto_region 2 with (fail)
  obtain ⟨w3, hw3⟩ : ∃ w3, w3 = w2.alloc (.cells #[.int .i64 l, .int .u64 b0, .int .u64 b1, .int .u64 s0, .int .u64 s1] 29) := ⟨_, rfl⟩
  have hbt : w3.heap[w2.heap.size]? = some (.cells #[.int .i64 l, .int .u64 b0, .int .u64 b1, .int .u64 s0, .int .u64 s1] 29 (0, 0)) := by
    rw [hw3]
    exact blk_new _ _
  have BX3 := Aside0.mk (blk_alloc BX2.out (.cells #[.int .i64 l, .int .u64 b0, .int .u64 b1, .int .u64 s0, .int .u64 s1] 29))
  have BR3 := Aside0.mk (blk_alloc BR2.out (.cells #[.int .i64 l, .int .u64 b0, .int .u64 b1, .int .u64 s0, .int .u64 s1] 29))
  have HB3 := Aside0.mk (below_alloc HB2.out (.cells #[.int .i64 l, .int .u64 b0, .int .u64 b1, .int .u64 s0, .int .u64 s1] 29))
  rw [← hw3] at BX3 BR3 HB3
  rw [← hw3]
  have hz3 := blk_lt hbt
  clear hw3
  have x0 := blk_cell BX3.out 0
  have t0 := blk_cell hbt 0
  have tf := blk_frozen hbt
  simp at x0 t0
  have BT3 := Aside0.mk hbt
  have hne : ¬ w.heap.size = w2.heap.size := by omega
  clear hbt
  go_wp2_with fail
  obtain ⟨w4, hw4⟩ : ∃ w4, w4 = (w3.setCell ⟨w2.heap.size, 0, none⟩ (.int .i64 2)).alloc (.cells #[.int .u64 0, .int .u64 18446744073709551615, .int .u64 15, .int .u64 8191] 22) := ⟨_, rfl⟩
  have BT4 := Aside0.mk (blk_alloc (blk_put BT3.out 0 (.int .i64 2) rfl) (.cells #[.int .u64 0, .int .u64 18446744073709551615, .int .u64 15, .int .u64 8191] 22))
  have BR4 := Aside0.mk (blk_alloc (blk_far BR3.out (p := ⟨w2.heap.size, 0, none⟩) (by show ¬ w.heap.size + 1 = w2.heap.size; omega) (.int .i64 2)) (.cells #[.int .u64 0, .int .u64 18446744073709551615, .int .u64 15, .int .u64 8191] 22))
  have HB4 := Aside0.mk (below_alloc (Below.setCell (p := ⟨w2.heap.size, 0, none⟩) HB3.out (by show w.heap.size ≤ w2.heap.size; omega) (.int .i64 2)) (.cells #[.int .u64 0, .int .u64 18446744073709551615, .int .u64 15, .int .u64 8191] 22))
  rw [← hw4] at BT4 BR4 HB4
  rw [← hw4]
  have hz4 := blk_lt BT4.out
  clear hw4 x0 t0 tf
  go_loopw [19] (fun i wr => ∃ (j : Nat) (B0 B1 S0 S1 : Int), j ≤ 2 ∧ i = .int .i64 j ∧ B0 = (if 0 < j then andM b0 14 else b0) ∧ B1 = (if 1 < j then andM b1 14 else b1) ∧ S0 = (if 0 < j then andM s0 15 else s0) ∧ S1 = (if 1 < j then andM s1 15 else s1) ∧ wr.heap[w2.heap.size]? = some (.cells #[.int .i64 2, .int .u64 B0, .int .u64 B1, .int .u64 S0, .int .u64 S1] 29 (0, 0)) ∧ Below w2.heap.size w4 wr) (fun i _ => 2 - (intOf i).toNat)
  case atStart => exact ⟨0, b0, b1, s0, s1, by omega, rfl, rfl, rfl, rfl, rfl, BT4.out, Below.refl _ _⟩
  case round =>
    obtain ⟨j, B0, B1, S0, S1, hj, rfl, e0, e1, e2, e3, hbt, hb⟩ := hrel
    have HBR := Aside0.mk hb
    have BTR := Aside0.mk hbt
    have E := Aside0.mk (And.intro e0 (And.intro e1 (And.intro e2 e3)))
    have t0 := blk_cell hbt 0
    have t1 := blk_cell hbt 1
    have t2 := blk_cell hbt 2
    have t3 := blk_cell hbt 3
    have t4 := blk_cell hbt 4
    have tf := blk_frozen hbt
    simp at t0 t1 t2 t3 t4
    clear hb hbt e0 e1 e2 e3
    have hjj : j = 0 ∨ j = 1 ∨ j = 2 := by omega
    rcases hjj with rfl | rfl | rfl
    · go_wp2
      go_roundw
      case rel =>
        obtain ⟨e0, e1, e2, e3⟩ := E.out
        refine ⟨1, andM B0 14, B1, andM S0 15, S1, by omega, by first | rfl | go_num, by rw [e0]; rfl, by rw [e1]; rfl, by rw [e2]; rfl, by rw [e3]; rfl, ?_, ?_⟩
        · exact blk_put (blk_put BTR.out 1 _ rfl) 3 _ rfl
        · exact Below.setCell (p := ⟨w2.heap.size, 3, none⟩) (Below.setCell (p := ⟨w2.heap.size, 1, none⟩) HBR.out (Nat.le_refl _) _) (Nat.le_refl _) _
      case measure => simp [intOf]
    · go_wp2
      go_roundw
      case rel =>
        obtain ⟨e0, e1, e2, e3⟩ := E.out
        refine ⟨2, B0, andM B1 14, S0, andM S1 15, by omega, by first | rfl | go_num, by rw [e0]; rfl, by rw [e1]; rfl, by rw [e2]; rfl, by rw [e3]; rfl, ?_, ?_⟩
        · exact blk_put (blk_put BTR.out 2 _ rfl) 4 _ rfl
        · exact Below.setCell (p := ⟨w2.heap.size, 4, none⟩) (Below.setCell (p := ⟨w2.heap.size, 2, none⟩) HBR.out (Nat.le_refl _) _) (Nat.le_refl _) _
      case measure => simp [intOf]
    · obtain ⟨e0, e1, e2, e3⟩ := E.out
      have f0 : B0 = andM b0 14 := e0
      have f1 : B1 = andM b1 14 := e1
      have f2 : S0 = andM s0 15 := e2
      have f3 : S1 = andM s1 15 := e3
      clear e0 e1 e2 e3 E
      subst f0 f1 f2 f3
      have hr : wr.heap[w.heap.size + 1]? = _ := (HBR.out.block (w.heap.size + 1) (by omega)).trans BR4.out
      have rf := blk_frozen hr
      have q0 := blk_cell hr 0
      have q1 := blk_cell hr 1
      have q2 := blk_cell hr 2
      have q3 := blk_cell hr 3
      have q4 := blk_cell hr 4
      simp at q0 q1 q2 q3 q4
      have RR := Aside0.mk hr
      clear hr
      go_wp2
      have RR' := RR
      have hr := blk_set (blk_set (blk_set (blk_set (blk_set RR'.out 0 (.int .i64 (2))) 1 (.int .u64 (andM b0 14))) 2 (.int .u64 (andM b1 14))) 3 (.int .u64 (andM s0 15))) 4 (.int .u64 (andM s1 15))
      refine bodyPost_ret (results_cell_row rfl _ _ (w.heap.size + 1) 29 #[.int .i64 (2), .int .u64 (andM b0 14), .int .u64 (andM b1 14), .int .u64 (andM s0 15), .int .u64 (andM s1 15)] (0, 0) _ rfl hr Tryd.underlying29 rfl (by kernel_rfl)) rfl ⟨rfl, ?_⟩
      have hbb : Below w.heap.size w wr := HB4.out.trans (HBR.out.mono (by omega))
      exact Below.setCell (p := ⟨w.heap.size + 1, 4, none⟩) (Below.setCell (p := ⟨w.heap.size + 1, 3, none⟩) (Below.setCell (p := ⟨w.heap.size + 1, 2, none⟩) (Below.setCell (p := ⟨w.heap.size + 1, 1, none⟩) (Below.setCell (p := ⟨w.heap.size + 1, 0, none⟩) hbb (Nat.le_succ _) _) (Nat.le_succ _) _) (Nat.le_succ _) _) (Nat.le_succ _) _) (Nat.le_succ _) _
set_option maxRecDepth 100000 in
set_option maxHeartbeats 4000000 in
theorem some5_3 (l b0 b1 s0 s1 : Int) (w : World) (ht : l % 256 % 3 = 2) :
    Calls Tryd.prog 14 #[.agg #[.int .i64 l, .int .u64 b0, .int .u64 b1, .int .u64 s0, .int .u64 s1]] w fun e w' => e = .returned (.agg #[.int .i64 (3), .int .u64 (andM b0 8190), .int .u64 (andM b1 8190), .int .u64 (andM s0 8191), .int .u64 (andM s1 8191)]) ∧ Below w.heap.size w w' := by
  have ho := fun W => honeycomblaw05_Own.calls l b0 b1 s0 s1 l b0 b1 s0 s1 W rfl
  have hand : Go.bits .and .i64 l 255 = l % 256 := by rw [and_255]
  have hmod : (l % 256).tmod 3 = 2 := by rw [Int.tmod_eq_emod_of_nonneg (by omega), ht]
  have hnot : Go.bits .andNot .u64 8191 1 = 8190 := by decide
  go_enter Tryd.func14, Tryd.ntmps14
  go_upto_region 1 with (fail)
  obtain ⟨w1, hw1⟩ : ∃ w1, w1 = (w.alloc (.cells #[.int .i64 l, .int .u64 b0, .int .u64 b1, .int .u64 s0, .int .u64 s1] 25)).alloc (.cells #[.int .i64 0, .int .u64 0, .int .u64 0, .int .u64 0, .int .u64 0] 29) := ⟨_, rfl⟩
  have hsz1 : (w.alloc (.cells #[.int .i64 l, .int .u64 b0, .int .u64 b1, .int .u64 s0, .int .u64 s1] 25)).heap.size = w.heap.size + 1 := by simp
  have hbx : w1.heap[w.heap.size]? = some (.cells #[.int .i64 l, .int .u64 b0, .int .u64 b1, .int .u64 s0, .int .u64 s1] 25 (0, 0)) := by
    rw [hw1]
    exact blk_alloc (blk_new w _) _
  have hbr : w1.heap[w.heap.size + 1]? = some (.cells #[.int .i64 0, .int .u64 0, .int .u64 0, .int .u64 0, .int .u64 0] 29 (0, 0)) := by
    rw [hw1, ← hsz1]
    exact blk_new _ _
  have hB1 : Below w.heap.size w w1 := by
    rw [hw1]
    exact below_alloc (below_alloc (Below.refl _ _) _) _
  rw [← hw1]
  clear hw1 hsz1
  have x0 := blk_cell hbx 0
  have x1 := blk_cell hbx 1
  have x2 := blk_cell hbx 2
  have x3 := blk_cell hbx 3
  have x4 := blk_cell hbx 4
  simp at x0 x1 x2 x3 x4
  have BX := Aside0.mk hbx
  have BR := Aside0.mk hbr
  have HB1 := Aside0.mk hB1
  have hz1 := blk_lt hbr
  clear hbx hbr hB1
  go_wp2_with fail
  refine (ho _).mono ?_
  rintro e w2 ⟨rfl, hb⟩
  have hz2 := hb.size
  have BX2 := Aside0.mk (blk_below BX.out hb)
  have BR2 := Aside0.mk (blk_below BR.out hb)
  have HB2 := Aside0.mk (HB1.out.trans (hb.mono (by omega)))
  clear hb x0 x1 x2 x3 x4
  go_upto_region 2 with (fail)
  obtain ⟨w3, hw3⟩ : ∃ w3, w3 = w2.alloc (.cells #[.int .i64 l, .int .u64 b0, .int .u64 b1, .int .u64 s0, .int .u64 s1] 29) := ⟨_, rfl⟩
  have hbt : w3.heap[w2.heap.size]? = some (.cells #[.int .i64 l, .int .u64 b0, .int .u64 b1, .int .u64 s0, .int .u64 s1] 29 (0, 0)) := by
    rw [hw3]
    exact blk_new _ _
  have BX3 := Aside0.mk (blk_alloc BX2.out (.cells #[.int .i64 l, .int .u64 b0, .int .u64 b1, .int .u64 s0, .int .u64 s1] 29))
  have BR3 := Aside0.mk (blk_alloc BR2.out (.cells #[.int .i64 l, .int .u64 b0, .int .u64 b1, .int .u64 s0, .int .u64 s1] 29))
  have HB3 := Aside0.mk (below_alloc HB2.out (.cells #[.int .i64 l, .int .u64 b0, .int .u64 b1, .int .u64 s0, .int .u64 s1] 29))
  rw [← hw3] at BX3 BR3 HB3
  rw [← hw3]
  have hz3 := blk_lt hbt
  clear hw3
  have x0 := blk_cell BX3.out 0
  have t0 := blk_cell hbt 0
  have tf := blk_frozen hbt
  simp at x0 t0
  have BT3 := Aside0.mk hbt
  have hne : ¬ w.heap.size = w2.heap.size := by omega
  clear hbt
  go_wp2_with fail
  obtain ⟨w4, hw4⟩ : ∃ w4, w4 = (w3.setCell ⟨w2.heap.size, 0, none⟩ (.int .i64 3)).alloc (.cells #[.int .u64 0, .int .u64 18446744073709551615, .int .u64 15, .int .u64 8191] 22) := ⟨_, rfl⟩
  have BT4 := Aside0.mk (blk_alloc (blk_put BT3.out 0 (.int .i64 3) rfl) (.cells #[.int .u64 0, .int .u64 18446744073709551615, .int .u64 15, .int .u64 8191] 22))
  have BR4 := Aside0.mk (blk_alloc (blk_far BR3.out (p := ⟨w2.heap.size, 0, none⟩) (by show ¬ w.heap.size + 1 = w2.heap.size; omega) (.int .i64 3)) (.cells #[.int .u64 0, .int .u64 18446744073709551615, .int .u64 15, .int .u64 8191] 22))
  have HB4 := Aside0.mk (below_alloc (Below.setCell (p := ⟨w2.heap.size, 0, none⟩) HB3.out (by show w.heap.size ≤ w2.heap.size; omega) (.int .i64 3)) (.cells #[.int .u64 0, .int .u64 18446744073709551615, .int .u64 15, .int .u64 8191] 22))
  rw [← hw4] at BT4 BR4 HB4
  rw [← hw4]
  have hz4 := blk_lt BT4.out
  clear hw4 x0 t0 tf
  go_loopw [19] (fun i wr => ∃ (j : Nat) (B0 B1 S0 S1 : Int), j ≤ 2 ∧ i = .int .i64 j ∧ B0 = (if 0 < j then andM b0 8190 else b0) ∧ B1 = (if 1 < j then andM b1 8190 else b1) ∧ S0 = (if 0 < j then andM s0 8191 else s0) ∧ S1 = (if 1 < j then andM s1 8191 else s1) ∧ wr.heap[w2.heap.size]? = some (.cells #[.int .i64 3, .int .u64 B0, .int .u64 B1, .int .u64 S0, .int .u64 S1] 29 (0, 0)) ∧ Below w2.heap.size w4 wr) (fun i _ => 2 - (intOf i).toNat)
  case atStart => exact ⟨0, b0, b1, s0, s1, by omega, rfl, rfl, rfl, rfl, rfl, BT4.out, Below.refl _ _⟩
  case round =>
    obtain ⟨j, B0, B1, S0, S1, hj, rfl, e0, e1, e2, e3, hbt, hb⟩ := hrel
    have HBR := Aside0.mk hb
    have BTR := Aside0.mk hbt
    have E := Aside0.mk (And.intro e0 (And.intro e1 (And.intro e2 e3)))
    have t0 := blk_cell hbt 0
    have t1 := blk_cell hbt 1
    have t2 := blk_cell hbt 2
    have t3 := blk_cell hbt 3
    have t4 := blk_cell hbt 4
    have tf := blk_frozen hbt
    simp at t0 t1 t2 t3 t4
    clear hb hbt e0 e1 e2 e3
    have hjj : j = 0 ∨ j = 1 ∨ j = 2 := by omega
    rcases hjj with rfl | rfl | rfl
    · go_wp2
      go_roundw
      case rel =>
        obtain ⟨e0, e1, e2, e3⟩ := E.out
        refine ⟨1, andM B0 8190, B1, andM S0 8191, S1, by omega, by first | rfl | go_num, by rw [e0]; rfl, by rw [e1]; rfl, by rw [e2]; rfl, by rw [e3]; rfl, ?_, ?_⟩
        · exact blk_put (blk_put BTR.out 1 _ rfl) 3 _ rfl
        · exact Below.setCell (p := ⟨w2.heap.size, 3, none⟩) (Below.setCell (p := ⟨w2.heap.size, 1, none⟩) HBR.out (Nat.le_refl _) _) (Nat.le_refl _) _
      case measure => simp [intOf]
    · go_wp2
      go_roundw
      case rel =>
        obtain ⟨e0, e1, e2, e3⟩ := E.out
        refine ⟨2, B0, andM B1 8190, S0, andM S1 8191, by omega, by first | rfl | go_num, by rw [e0]; rfl, by rw [e1]; rfl, by rw [e2]; rfl, by rw [e3]; rfl, ?_, ?_⟩
        · exact blk_put (blk_put BTR.out 2 _ rfl) 4 _ rfl
        · exact Below.setCell (p := ⟨w2.heap.size, 4, none⟩) (Below.setCell (p := ⟨w2.heap.size, 2, none⟩) HBR.out (Nat.le_refl _) _) (Nat.le_refl _) _
      case measure => simp [intOf]
    · obtain ⟨e0, e1, e2, e3⟩ := E.out
      have f0 : B0 = andM b0 8190 := e0
      have f1 : B1 = andM b1 8190 := e1
      have f2 : S0 = andM s0 8191 := e2
      have f3 : S1 = andM s1 8191 := e3
      clear e0 e1 e2 e3 E
      subst f0 f1 f2 f3
      have hr : wr.heap[w.heap.size + 1]? = _ := (HBR.out.block (w.heap.size + 1) (by omega)).trans BR4.out
      have rf := blk_frozen hr
      have q0 := blk_cell hr 0
      have q1 := blk_cell hr 1
      have q2 := blk_cell hr 2
      have q3 := blk_cell hr 3
      have q4 := blk_cell hr 4
      simp at q0 q1 q2 q3 q4
      have RR := Aside0.mk hr
      clear hr
      go_wp2
      have RR' := RR
      have hr := blk_set (blk_set (blk_set (blk_set (blk_set RR'.out 0 (.int .i64 (3))) 1 (.int .u64 (andM b0 8190))) 2 (.int .u64 (andM b1 8190))) 3 (.int .u64 (andM s0 8191))) 4 (.int .u64 (andM s1 8191))
      refine bodyPost_ret (results_cell_row rfl _ _ (w.heap.size + 1) 29 #[.int .i64 (3), .int .u64 (andM b0 8190), .int .u64 (andM b1 8190), .int .u64 (andM s0 8191), .int .u64 (andM s1 8191)] (0, 0) _ rfl hr Tryd.underlying29 rfl (by kernel_rfl)) rfl ⟨rfl, ?_⟩
      have hbb : Below w.heap.size w wr := HB4.out.trans (HBR.out.mono (by omega))
      exact Below.setCell (p := ⟨w.heap.size + 1, 4, none⟩) (Below.setCell (p := ⟨w.heap.size + 1, 3, none⟩) (Below.setCell (p := ⟨w.heap.size + 1, 2, none⟩) (Below.setCell (p := ⟨w.heap.size + 1, 1, none⟩) (Below.setCell (p := ⟨w.heap.size + 1, 0, none⟩) hbb (Nat.le_succ _) _) (Nat.le_succ _) _) (Nat.le_succ _) _) (Nat.le_succ _) _) (Nat.le_succ _) _
set_option maxRecDepth 100000 in
set_option maxHeartbeats 4000000 in
theorem some5_1 (l b0 b1 s0 s1 : Int) (w : World) (ht : l % 256 % 3 = 0) :
    Calls Tryd.prog 14 #[.agg #[.int .i64 l, .int .u64 b0, .int .u64 b1, .int .u64 s0, .int .u64 s1]] w fun e w' => e = .returned (.agg #[.int .i64 (1), .int .u64 (andM b0 18446744073709551614), .int .u64 (0), .int .u64 (andM s0 18446744073709551615), .int .u64 (0)]) ∧ Below w.heap.size w w' := by
  have ho := fun W => honeycomblaw05_Own.calls l b0 b1 s0 s1 l b0 b1 s0 s1 W rfl
  have hand : Go.bits .and .i64 l 255 = l % 256 := by rw [and_255]
  have hmod : (l % 256).tmod 3 = 0 := by rw [Int.tmod_eq_emod_of_nonneg (by omega), ht]
  have hnot : Go.bits .andNot .u64 18446744073709551615 1 = 18446744073709551614 := by decide
  go_enter Tryd.func14, Tryd.ntmps14
  go_upto_region 1 with (fail)
  obtain ⟨w1, hw1⟩ : ∃ w1, w1 = (w.alloc (.cells #[.int .i64 l, .int .u64 b0, .int .u64 b1, .int .u64 s0, .int .u64 s1] 25)).alloc (.cells #[.int .i64 0, .int .u64 0, .int .u64 0, .int .u64 0, .int .u64 0] 29) := ⟨_, rfl⟩
  have hsz1 : (w.alloc (.cells #[.int .i64 l, .int .u64 b0, .int .u64 b1, .int .u64 s0, .int .u64 s1] 25)).heap.size = w.heap.size + 1 := by simp
  have hbx : w1.heap[w.heap.size]? = some (.cells #[.int .i64 l, .int .u64 b0, .int .u64 b1, .int .u64 s0, .int .u64 s1] 25 (0, 0)) := by
    rw [hw1]
    exact blk_alloc (blk_new w _) _
  have hbr : w1.heap[w.heap.size + 1]? = some (.cells #[.int .i64 0, .int .u64 0, .int .u64 0, .int .u64 0, .int .u64 0] 29 (0, 0)) := by
    rw [hw1, ← hsz1]
    exact blk_new _ _
  have hB1 : Below w.heap.size w w1 := by
    rw [hw1]
    exact below_alloc (below_alloc (Below.refl _ _) _) _
  rw [← hw1]
  clear hw1 hsz1
  have x0 := blk_cell hbx 0
  have x1 := blk_cell hbx 1
  have x2 := blk_cell hbx 2
  have x3 := blk_cell hbx 3
  have x4 := blk_cell hbx 4
  simp at x0 x1 x2 x3 x4
  have BX := Aside0.mk hbx
  have BR := Aside0.mk hbr
  have HB1 := Aside0.mk hB1
  have hz1 := blk_lt hbr
  clear hbx hbr hB1
  go_wp2_with fail
  refine (ho _).mono ?_
  rintro e w2 ⟨rfl, hb⟩
  have hz2 := hb.size
  have BX2 := Aside0.mk (blk_below BX.out hb)
  have BR2 := Aside0.mk (blk_below BR.out hb)
  have HB2 := Aside0.mk (HB1.out.trans (hb.mono (by omega)))
  clear hb x0 x1 x2 x3 x4
  go_upto_region 2 with (fail)
  obtain ⟨w3, hw3⟩ : ∃ w3, w3 = w2.alloc (.cells #[.int .i64 l, .int .u64 b0, .int .u64 b1, .int .u64 s0, .int .u64 s1] 29) := ⟨_, rfl⟩
  have hbt : w3.heap[w2.heap.size]? = some (.cells #[.int .i64 l, .int .u64 b0, .int .u64 b1, .int .u64 s0, .int .u64 s1] 29 (0, 0)) := by
    rw [hw3]
    exact blk_new _ _
  have BX3 := Aside0.mk (blk_alloc BX2.out (.cells #[.int .i64 l, .int .u64 b0, .int .u64 b1, .int .u64 s0, .int .u64 s1] 29))
  have BR3 := Aside0.mk (blk_alloc BR2.out (.cells #[.int .i64 l, .int .u64 b0, .int .u64 b1, .int .u64 s0, .int .u64 s1] 29))
  have HB3 := Aside0.mk (below_alloc HB2.out (.cells #[.int .i64 l, .int .u64 b0, .int .u64 b1, .int .u64 s0, .int .u64 s1] 29))
  rw [← hw3] at BX3 BR3 HB3
  rw [← hw3]
  have hz3 := blk_lt hbt
  clear hw3
  have x0 := blk_cell BX3.out 0
  have t0 := blk_cell hbt 0
  have tf := blk_frozen hbt
  simp at x0 t0
  have BT3 := Aside0.mk hbt
  have hne : ¬ w.heap.size = w2.heap.size := by omega
  clear hbt
  go_wp2_with fail
  obtain ⟨w4, hw4⟩ : ∃ w4, w4 = (w3.setCell ⟨w2.heap.size, 0, none⟩ (.int .i64 1)).alloc (.cells #[.int .u64 0, .int .u64 18446744073709551615, .int .u64 15, .int .u64 8191] 22) := ⟨_, rfl⟩
  have BT4 := Aside0.mk (blk_alloc (blk_put BT3.out 0 (.int .i64 1) rfl) (.cells #[.int .u64 0, .int .u64 18446744073709551615, .int .u64 15, .int .u64 8191] 22))
  have BR4 := Aside0.mk (blk_alloc (blk_far BR3.out (p := ⟨w2.heap.size, 0, none⟩) (by show ¬ w.heap.size + 1 = w2.heap.size; omega) (.int .i64 1)) (.cells #[.int .u64 0, .int .u64 18446744073709551615, .int .u64 15, .int .u64 8191] 22))
  have HB4 := Aside0.mk (below_alloc (Below.setCell (p := ⟨w2.heap.size, 0, none⟩) HB3.out (by show w.heap.size ≤ w2.heap.size; omega) (.int .i64 1)) (.cells #[.int .u64 0, .int .u64 18446744073709551615, .int .u64 15, .int .u64 8191] 22))
  rw [← hw4] at BT4 BR4 HB4
  rw [← hw4]
  have hz4 := blk_lt BT4.out
  clear hw4 x0 t0 tf
  go_loopw [19] (fun i wr => ∃ (j : Nat) (B0 B1 S0 S1 : Int), j ≤ 2 ∧ i = .int .i64 j ∧ B0 = (if 0 < j then andM b0 18446744073709551614 else b0) ∧ B1 = (if 1 < j then andM b1 18446744073709551614 else b1) ∧ S0 = (if 0 < j then andM s0 18446744073709551615 else s0) ∧ S1 = (if 1 < j then andM s1 18446744073709551615 else s1) ∧ wr.heap[w2.heap.size]? = some (.cells #[.int .i64 1, .int .u64 B0, .int .u64 B1, .int .u64 S0, .int .u64 S1] 29 (0, 0)) ∧ Below w2.heap.size w4 wr) (fun i _ => 2 - (intOf i).toNat)
  case atStart => exact ⟨0, b0, b1, s0, s1, by omega, rfl, rfl, rfl, rfl, rfl, BT4.out, Below.refl _ _⟩
  case round =>
    obtain ⟨j, B0, B1, S0, S1, hj, rfl, e0, e1, e2, e3, hbt, hb⟩ := hrel
    have HBR := Aside0.mk hb
    have BTR := Aside0.mk hbt
    have E := Aside0.mk (And.intro e0 (And.intro e1 (And.intro e2 e3)))
    have t0 := blk_cell hbt 0
    have t1 := blk_cell hbt 1
    have t2 := blk_cell hbt 2
    have t3 := blk_cell hbt 3
    have t4 := blk_cell hbt 4
    have tf := blk_frozen hbt
    simp at t0 t1 t2 t3 t4
    clear hb hbt e0 e1 e2 e3
    have hjj : j = 0 ∨ j = 1 ∨ j = 2 := by omega
    rcases hjj with rfl | rfl | rfl
    · go_wp2
      go_roundw
      case rel =>
        obtain ⟨e0, e1, e2, e3⟩ := E.out
        refine ⟨1, andM B0 18446744073709551614, B1, andM S0 18446744073709551615, S1, by omega, by first | rfl | go_num, by rw [e0]; rfl, by rw [e1]; rfl, by rw [e2]; rfl, by rw [e3]; rfl, ?_, ?_⟩
        · exact blk_put (blk_put BTR.out 1 _ rfl) 3 _ rfl
        · exact Below.setCell (p := ⟨w2.heap.size, 3, none⟩) (Below.setCell (p := ⟨w2.heap.size, 1, none⟩) HBR.out (Nat.le_refl _) _) (Nat.le_refl _) _
      case measure => simp [intOf]
    · go_wp2
      go_roundw
      case rel =>
        obtain ⟨e0, e1, e2, e3⟩ := E.out
        refine ⟨2, B0, andM B1 18446744073709551614, S0, andM S1 18446744073709551615, by omega, by first | rfl | go_num, by rw [e0]; rfl, by rw [e1]; rfl, by rw [e2]; rfl, by rw [e3]; rfl, ?_, ?_⟩
        · exact blk_put (blk_put BTR.out 2 _ rfl) 4 _ rfl
        · exact Below.setCell (p := ⟨w2.heap.size, 4, none⟩) (Below.setCell (p := ⟨w2.heap.size, 2, none⟩) HBR.out (Nat.le_refl _) _) (Nat.le_refl _) _
      case measure => simp [intOf]
    · obtain ⟨e0, e1, e2, e3⟩ := E.out
      have f0 : B0 = andM b0 18446744073709551614 := e0
      have f1 : B1 = andM b1 18446744073709551614 := e1
      have f2 : S0 = andM s0 18446744073709551615 := e2
      have f3 : S1 = andM s1 18446744073709551615 := e3
      clear e0 e1 e2 e3 E
      subst f0 f1 f2 f3
      have hr : wr.heap[w.heap.size + 1]? = _ := (HBR.out.block (w.heap.size + 1) (by omega)).trans BR4.out
      have rf := blk_frozen hr
      have q0 := blk_cell hr 0
      have q1 := blk_cell hr 1
      have q2 := blk_cell hr 2
      have q3 := blk_cell hr 3
      have q4 := blk_cell hr 4
      simp at q0 q1 q2 q3 q4
      have RR := Aside0.mk hr
      clear hr
      go_wp2
      have RR' := Aside0.mk (blk_far (blk_far RR.out (p := ⟨w2.heap.size, 2, none⟩) (by show ¬ w.heap.size + 1 = w2.heap.size; omega) (.int .u64 0)) (p := ⟨w2.heap.size, 4, none⟩) (by show ¬ w.heap.size + 1 = w2.heap.size; omega) (.int .u64 0))
      have hr := blk_set (blk_set (blk_set (blk_set (blk_set RR'.out 0 (.int .i64 (1))) 1 (.int .u64 (andM b0 18446744073709551614))) 2 (.int .u64 (0))) 3 (.int .u64 (andM s0 18446744073709551615))) 4 (.int .u64 (0))
      refine bodyPost_ret (results_cell_row rfl _ _ (w.heap.size + 1) 29 #[.int .i64 (1), .int .u64 (andM b0 18446744073709551614), .int .u64 (0), .int .u64 (andM s0 18446744073709551615), .int .u64 (0)] (0, 0) _ rfl hr Tryd.underlying29 rfl (by kernel_rfl)) rfl ⟨rfl, ?_⟩
      have hbb : Below w.heap.size w ((wr.setCell ⟨w2.heap.size, 2, none⟩ (.int .u64 0)).setCell ⟨w2.heap.size, 4, none⟩ (.int .u64 0)) := Below.setCell (p := ⟨w2.heap.size, 4, none⟩) (Below.setCell (p := ⟨w2.heap.size, 2, none⟩) (HB4.out.trans (HBR.out.mono (by omega))) (by show w.heap.size ≤ w2.heap.size; omega) _) (by show w.heap.size ≤ w2.heap.size; omega) _
      exact Below.setCell (p := ⟨w.heap.size + 1, 4, none⟩) (Below.setCell (p := ⟨w.heap.size + 1, 3, none⟩) (Below.setCell (p := ⟨w.heap.size + 1, 2, none⟩) (Below.setCell (p := ⟨w.heap.size + 1, 1, none⟩) (Below.setCell (p := ⟨w.heap.size + 1, 0, none⟩) hbb (Nat.le_succ _) _) (Nat.le_succ _) _) (Nat.le_succ _) _) (Nat.le_succ _) _) (Nat.le_succ _) _
def latT (l : Int) : Int := 1 + l % 256 % 3
def maskT (t : Int) : Int := if t = 1 then 18446744073709551615 else if t = 2 then 15 else 8191
def bornT (t : Int) : Int := if t = 1 then 18446744073709551614 else if t = 2 then 14 else 8190
def XSome5.f (l b0 b1 s0 s1 : Int) : Option (Int × Int × Int × Int × Int) := some (latT l, andM b0 (bornT (latT l)), if latT l = 1 then 0 else andM b1 (bornT (latT l)), andM s0 (maskT (latT l)), if latT l = 1 then 0 else andM s1 (maskT (latT l)))
theorem XSome5.calls (a0_0 : Int) (a0_1 : Int) (a0_2 : Int) (a0_3 : Int) (a0_4 : Int) (r1 : Int) (r2 : Int) (r3 : Int) (r4 : Int) (r5 : Int) (w : World) (h : XSome5.f a0_0 a0_1 a0_2 a0_3 a0_4 = some (r1, r2, r3, r4, r5)) :
    Calls Tryd.prog 14 #[.agg #[.int .i64 a0_0, .int .u64 a0_1, .int .u64 a0_2, .int .u64 a0_3, .int .u64 a0_4]] w fun e w' => e = .returned (.agg #[.int .i64 r1, .int .u64 r2, .int .u64 r3, .int .u64 r4, .int .u64 r5]) ∧ Below w.heap.size w w' := by
  simp only [XSome5.f, Option.some.injEq, Prod.mk.injEq] at h
  obtain ⟨rfl, rfl, rfl, rfl, rfl⟩ := h
  have hc : a0_0 % 256 % 3 = 0 ∨ a0_0 % 256 % 3 = 1 ∨ a0_0 % 256 % 3 = 2 := by omega
  rcases hc with hc | hc | hc
  · have e : latT a0_0 = 1 := by unfold latT; omega
    rw [e]
    exact some5_1 _ _ _ _ _ w hc
  · have e : latT a0_0 = 2 := by unfold latT; omega
    rw [e]
    exact some5_2 _ _ _ _ _ w hc
  · have e : latT a0_0 = 3 := by unfold latT; omega
    rw [e]
    exact some5_3 _ _ _ _ _ w hc
theorem leO_addG {α : Type} {g : Nat → Option α} (h : ∀ k, LeO (g k) (g (k + 1))) {n : Nat} {r : α} (hn : g n = some r) : ∀ m, g (n + m) = some r
  | 0 => hn
  | m + 1 => h (n + m) r (leO_addG h hn m)
theorem leO_ge {α : Type} {g : Nat → Option α} (h : ∀ k, LeO (g k) (g (k + 1))) {n : Nat} {r : α} (hn : g n = some r) (K : Nat) (hK : n ≤ K) : g K = some r := by
  obtain ⟨m, rfl⟩ : ∃ m, K = n + m := ⟨K - n, by omega⟩
  exact leO_addG h hn m
theorem half_tab : ∀ p : Fin 12, (onC 2 (p.1 : Int) (mk 0 0 0)).f1 = (p.1 % 2 : Nat) ∧ (onC 3 (p.1 : Int) (mk 0 0 0)).f1 = (p.1 % 2 : Nat) ∧ goodP (onC 2 (p.1 : Int) (mk 0 0 0)).f0.f0 (onC 2 (p.1 : Int) (mk 0 0 0)).f0.f1 ∧ goodP (onC 3 (p.1 : Int) (mk 0 0 0)).f0.f0 (onC 3 (p.1 : Int) (mk 0 0 0)).f0.f1 := by
  unfold goodP
  decide +kernel
/-- does an operator change nothing of what a table does -/
def KP (L B0 B1 S0 S1 : Int) (p : Nat) : Prop := if L = 1 then ∀ q : Nat, q < 64 → badAt B0 S0 p q = false else (p % 2 = 0 ∨ (B0 = B1 ∧ S0 = S1))
theorem keeps_any (L B0 B1 S0 S1 : Int) (K p : Nat) (hL : L = 1 ∨ L = 2 ∨ L = 3) (h1 : L = 1 → B1 = 0 ∧ S1 = 0) (hK : 66 ≤ K) (hp : p < 12) (hc : checkT L B0 B1 S0 S1 = none) :
    ∃ v, iso_Keeps.f K L B0 B1 S0 S1 (p : Int) = some v ∧ (v = true ↔ KP L B0 B1 S0 S1 p) := by
  obtain ⟨k, rfl⟩ : ∃ k, K = k + 66 := ⟨K - 66, by omega⟩
  unfold KP
  by_cases h : L = 1
  · subst h
    rw [if_pos rfl]
    exact keeps_hex B0 B1 S0 S1 k p hp hc
  · rw [if_neg h]
    obtain ⟨t2, t3, g2, g3⟩ := half_tab ⟨p, hp⟩
    simp only at t2 t3 g2 g3
    have hck : checkR L 0 0 0 = none := by
      unfold checkR
      rw [if_pos (by omega), if_neg (by rw [if_neg h]; omega), if_pos (by unfold goodP; omega)]
    have hon : ∃ x y, XOn.f L (p : Int) 0 0 0 = some (x, y, ((p % 2 : Nat) : Int), none) := by
      unfold XOn.f onR
      rw [show (mk 0 0 0 : CL).f0.f0 = 0 from rfl, show (mk 0 0 0 : CL).f0.f1 = 0 from rfl, show (mk 0 0 0 : CL).f1 = 0 from rfl, hck]
      simp only
      rw [if_pos (by omega)]
      rcases hL with hL | hL | hL
      · exact absurd hL h
      · subst hL
        rw [if_pos g2, t2]
        exact ⟨_, _, rfl⟩
      · subst hL
        rw [if_pos g3, t3]
        exact ⟨_, _, rfl⟩
    obtain ⟨x, y, hon⟩ := hon
    unfold iso_Keeps.f
    rw [show XTCheck.f L B0 B1 S0 S1 = some none by unfold XTCheck.f; rw [hc]]
    simp only [Option.bind_some, Option.isNone_none, ↓reduceIte, good_f p hp, Bool.not_true]
    rw [show k + 66 = (k + 65) + 1 from rfl, iso_Keeps.j0, if_neg (by decide), if_neg h, hon]
    simp only [Option.bind_some]
    by_cases hh : ((p % 2 : Nat) : Int) = 0
    · rw [if_pos hh]
      exact ⟨true, rfl, by simp; left; omega⟩
    · rw [if_neg hh]
      by_cases hB : B0 = B1
      · rw [if_pos hB]
        exact ⟨_, rfl, by simp; constructor; (intro e; exact .inr ⟨hB, e⟩); (rintro (e | e); (omega); exact e.2)⟩
      · rw [if_neg hB]
        exact ⟨false, rfl, by simp; exact ⟨by omega, fun e => absurd e hB⟩⟩
end Go.Proofs.YtaeenefdbahfoaaDoor
namespace Go.Proofs.YtaeenefdbahfoaaDoor
set_option linter.unusedSimpArgs false
set_option linter.unusedVariables false
open Go.ChangeMaps Go.MapKept Go.WideShapes
open Go.Maps (Keyed)
/-- block b of w is a map of these keys and values, in the order in which they came -/
def MapAt (P : Program) (k : TypeId) (w : World) (b : Nat) (l : List (Value × Value)) : Prop :=
  ∃ es clock, w.heap[b]? = some (.map es clock) ∧ Stamped es clock ∧ (∀ x ∈ es.toList, ∃ kl, keyOf P k x.key = some kl) ∧ es.toList.map (fun e => (e.key, e.val)) = l
section
variable {P : Program} {k e t : TypeId} {w : World} {b : Nat} {l : List (Value × Value)}
theorem nodup_idx {α : Type} {l : List α} (h : l.Nodup) {i j : Nat} {x : α} (hi : l[i]? = some x) (hj : l[j]? = some x) : i = j :=
  (List.getElem?_inj (List.getElem?_eq_some_iff.1 hi).1 h).1 (hi.trans hj.symm)
theorem MapAt.of_heap {w' : World} (h : MapAt P k w b l) (hh : w'.heap[b]? = w.heap[b]?) : MapAt P k w' b l := by
  obtain ⟨es, c, hb, r⟩ := h
  exact ⟨es, c, hh.trans hb, r⟩
theorem MapAt.lt (h : MapAt P k w b l) : b < w.heap.size := by
  obtain ⟨es, c, hb, _⟩ := h
  exact (Array.getElem?_eq_some_iff.1 hb).1
theorem MapAt.below {w' : World} (h : MapAt P k w b l) (hb : RowKit.Below w.heap.size w w') : MapAt P k w' b l :=
  h.of_heap (hb.block b h.lt)
theorem MapAt.len (h : MapAt P k w b l) (ht : P.underlying t = some (.map k e)) (ty : TypeId) : (Builtin.len_ #[t] ty #[.map (some b)]).run P w = .ok (.int .i64 l.length) w := by
  obtain ⟨es, clock, hb, _, _, hl⟩ := h
  have : l.length = es.size := by rw [← hl]; simp
  rw [this]
  simp [Builtin.len_, run_underlying ht, MapKept.run_getObj_map hb, goInt, Result.andThen]
end
end Go.Proofs.YtaeenefdbahfoaaDoor
namespace Go.Proofs.YtaeenefdbahfoaaDoor
set_option linter.unusedSimpArgs false
set_option linter.unusedVariables false
open Go.RowKit Go.Proofs.YtaeenefdbahfoaaDoorW.PrintWords Go.Proofs.YtaeenefdbahfoaaDoorW.PrintLast Go.Proofs.YtaeenefdbahfoaaDoorW.PrintMore
open Go.ChangeMaps Go.MapKept Go.WideShapes
open Go.Maps (Keyed)
set_option maxRecDepth 100000
theorem ptCells : Tryd.prog.cellsOf 63 = 2 := by kernel_rfl
theorem i64Cells : Tryd.prog.cellsOf 2 = 1 := by kernel_rfl
theorem i64wf (a : Int) (h : -9223372036854775808 ≤ a) (h' : a ≤ 9223372036854775807) : (Lit.int .i64 a).wf = true := by
  simp only [Lit.wf, IntKind.min, IntKind.max, IntKind.signed, IntKind.bits, Bool.and_eq_true, decide_eq_true_eq, if_true]
  omega
theorem lits_i64 (n : Nat) (a : Int) (h : -9223372036854775808 ≤ a) (h' : a ≤ 9223372036854775807) : Tryd.prog.keyLits (n + 1) 2 [.int .i64 a] = some [.int .i64 a] := by
  simp [Program.keyLits, Tryd.underlying2, i64wf a h h']
theorem lits_pt (n : Nat) (a b : Int) (ha : -9223372036854775808 ≤ a) (ha' : a ≤ 9223372036854775807) (hb : -9223372036854775808 ≤ b) (hb' : b ≤ 9223372036854775807) :
    Tryd.prog.keyLits (n + 2) 63 [.int .i64 a, .int .i64 b] = some [.int .i64 a, .int .i64 b] := by
  unfold Program.keyLits
  simp [Tryd.underlying63, ptCells, i64Cells, lits_i64 n a ha ha', lits_i64 n b hb hb']
end Go.Proofs.YtaeenefdbahfoaaDoor
namespace Go.Proofs.YtaeenefdbahfoaaDoor
set_option linter.unusedSimpArgs false
set_option linter.unusedVariables false
open Go.RowKit Go.Proofs.YtaeenefdbahfoaaDoorW.PrintWords Go.Proofs.YtaeenefdbahfoaaDoorW.PrintLast Go.Proofs.YtaeenefdbahfoaaDoorW.PrintMore
open H
open Go.RowKit Go.ChangeMaps Go.MapKept Go.WideShapes
open Go.Maps (Keyed)
set_option maxRecDepth 100000
theorem ccCells : Tryd.prog.cellsOf 65 = 3 := by kernel_rfl
theorem intCells : Tryd.prog.cellsOf 3 = 1 := by kernel_rfl
theorem ccFormed (a b c : Value) : (Value.agg #[a, b, c]).formed Tryd.prog 65 = true := by simp [Value.formed, Tryd.underlying65, ccCells]
theorem lits_int (n : Nat) (a : Int) (h : -9223372036854775808 ≤ a) (h' : a ≤ 9223372036854775807) : Tryd.prog.keyLits (n + 1) 3 [.int .i64 a] = some [.int .i64 a] := by
  simp [Program.keyLits, Tryd.underlying3, i64wf a h h']
theorem lits_cc (n : Nat) (a b c : Int) (ha : -9223372036854775808 ≤ a) (ha' : a ≤ 9223372036854775807) (hb : -9223372036854775808 ≤ b) (hb' : b ≤ 9223372036854775807) (hc : -9223372036854775808 ≤ c) (hc' : c ≤ 9223372036854775807) :
    Tryd.prog.keyLits (n + 3) 65 [.int .i64 a, .int .i64 b, .int .i64 c] = some [.int .i64 a, .int .i64 b, .int .i64 c] := by
  have h1 := lits_pt n a b ha ha' hb hb'
  have h2 := lits_int (n + 1) c hc hc'
  unfold Program.keyLits
  simp [Tryd.underlying65, ccCells, ptCells, intCells, h1, h2]
theorem ccKey (a b c : Int) (ha : -9223372036854775808 ≤ a) (ha' : a ≤ 9223372036854775807) (hb : -9223372036854775808 ≤ b) (hb' : b ≤ 9223372036854775807) (hc : -9223372036854775808 ≤ c) (hc' : c ≤ 9223372036854775807) :
    ∃ kl, keyOf Tryd.prog 65 (.agg #[.int .i64 a, .int .i64 b, .int .i64 c]) = some kl := by
  have hk : Tryd.prog.keyType 65 = true := by kernel_rfl
  have hs : ∃ n, Tryd.prog.types.size + 1 = n + 3 := ⟨Tryd.prog.types.size - 2, by have : 2 ≤ Tryd.prog.types.size := of_decide_eq_true (by kernel_rfl); omega⟩
  obtain ⟨n, hn⟩ := hs
  unfold keyOf
  simp only [Tryd.underlying65]
  rw [if_pos (by rw [hk, ccFormed]; rfl), hn]
  exact ⟨_, by rw [show (Value.agg #[Value.int .i64 a, Value.int .i64 b, Value.int .i64 c]).cells.toList = [.int .i64 a, .int .i64 b, .int .i64 c] from rfl, lits_cc n a b c ha ha' hb hb' hc hc']; rfl⟩
/-- a whole number for each of some cells -/
abbrev Tot := List (CL × Int)
def cntC (L : Tot) (q : CL) : Int := match L.findIdx? (fun p => decide (p.1 = q)) with | some j => (L[j]?.map (·.2)).getD 0 | none => 0
def putC (L : Tot) (q : CL) (x : Int) : Tot := match L.findIdx? (fun p => decide (p.1 = q)) with | some j => L.set j (q, x) | none => L ++ [(q, x)]
def delC (L : Tot) (q : CL) : Tot := match L.findIdx? (fun p => decide (p.1 = q)) with | some j => L.eraseIdx j | none => L
theorem cl_of {x y : CL} (h0 : x.f0.f0 = y.f0.f0) (h1 : x.f0.f1 = y.f0.f1) (h2 : x.f1 = y.f1) : x = y := by
  obtain ⟨⟨a, b⟩, h⟩ := x
  obtain ⟨⟨c, d⟩, k⟩ := y
  simp only at h0 h1 h2
  rw [h0, h1, h2]
/-- a cell whose numbers are in range -/
def inR (q : CL) : Prop := (-9223372036854775808 ≤ q.f0.f0 ∧ q.f0.f0 ≤ 9223372036854775807) ∧ (-9223372036854775808 ≤ q.f0.f1 ∧ q.f0.f1 ≤ 9223372036854775807) ∧ (-9223372036854775808 ≤ q.f1 ∧ q.f1 ≤ 9223372036854775807)
theorem inR.key {q : CL} (h : inR q) : ∃ kl, keyOf Tryd.prog 65 (.agg #[.int .i64 q.f0.f0, .int .i64 q.f0.f1, .int .i64 q.f1]) = some kl := ccKey q.f0.f0 q.f0.f1 q.f1 h.1.1 h.1.2 h.2.1.1 h.2.1.2 h.2.2.1 h.2.2.2
/-- the six, by number -/
def sxA : Nat → Int
  | 0 => 1 | 1 => 0 | 2 => -1 | 3 => -1 | 4 => 0 | _ => 1
def sxB : Nat → Int
  | 0 => 0 | 1 => 1 | 2 => 1 | 3 => 0 | 4 => -1 | _ => -1
end Go.Proofs.YtaeenefdbahfoaaDoor
namespace Go.Proofs.YtaeenefdbahfoaaDoor
set_option linter.unusedSimpArgs false
set_option linter.unusedVariables false
open Go.RowKit Go.Proofs.YtaeenefdbahfoaaDoorW.PrintWords Go.Proofs.YtaeenefdbahfoaaDoorW.PrintLast Go.Proofs.YtaeenefdbahfoaaDoorW.PrintMore
open H
def triStep (M : Tot) (d : CL) : Tot := putC M d (cntC M d + 1)
def hexQ (c : CL) (k : Nat) : CL := mk (c.f0.f0 + sxA k) (c.f0.f1 + sxB k) 0
def hexStep (c : CL) (M : Tot) (k : Nat) : Tot := putC M (hexQ c k) (Go.bits .or .i64 (cntC M (hexQ c k)) (2 ^ ((k + 3) % 6)))
def besL (l : Int) (c : CL) : List CL := (offs l c.f1).map (sh c.f0.f0 c.f0.f1)
def arStep (l : Int) (M : Tot) (c : CL) : Tot := if l = 1 then (List.range 6).foldl (hexStep c) M else (besL l c).foldl triStep M
def arL (l : Int) (s : List CL) : Tot := s.foldl (arStep l) []
/-- all numbers are within bounds -/
def Bd (M : Tot) (n : Int) : Prop := ∀ p ∈ M, 0 ≤ p.2 ∧ p.2 ≤ n
theorem Bd.cnt {M : Tot} {n : Int} (h : Bd M n) (hn : 0 ≤ n) (q : CL) : 0 ≤ cntC M q ∧ cntC M q ≤ n := by
  unfold cntC
  cases hf : M.findIdx? (fun p => decide (p.1 = q)) with
  | some j =>
    obtain ⟨hj, _, _⟩ := List.findIdx?_eq_some_iff_getElem.1 hf
    simp only [List.getElem?_eq_getElem hj, Option.map_some, Option.getD_some]
    exact h _ (List.getElem_mem hj)
  | none => exact ⟨Int.le_refl _, hn⟩
theorem Bd.put {M : Tot} {n : Int} (h : Bd M n) (q : CL) (x : Int) (h0 : 0 ≤ x) (h1 : x ≤ n) : Bd (putC M q x) n := by
  unfold putC
  cases hf : M.findIdx? (fun p => decide (p.1 = q)) with
  | some j =>
    intro p hp
    rcases List.mem_or_eq_of_mem_set hp with hp | rfl
    · exact h p hp
    · exact ⟨h0, h1⟩
  | none =>
    intro p hp
    rcases List.mem_append.1 hp with hp | hp
    · exact h p hp
    · obtain rfl := List.mem_singleton.1 hp
      exact ⟨h0, h1⟩
theorem Bd.mono {M : Tot} {n m : Int} (h : Bd M n) (hnm : n ≤ m) : Bd M m := fun p hp => ⟨(h p hp).1, Int.le_trans (h p hp).2 hnm⟩
theorem Bd_nil (n : Int) : Bd [] n := fun p hp => by cases hp
theorem or63 : ∀ (x : Fin 64) (j : Fin 6), 0 ≤ Go.bits .or .i64 (x.1 : Int) ((2 : Int) ^ j.1) ∧ Go.bits .or .i64 (x.1 : Int) ((2 : Int) ^ j.1) ≤ 63 := by decide +kernel
theorem or63' (x : Int) (h0 : 0 ≤ x) (h1 : x ≤ 63) (j : Nat) (hj : j < 6) : 0 ≤ Go.bits .or .i64 x ((2 : Int) ^ j) ∧ Go.bits .or .i64 x ((2 : Int) ^ j) ≤ 63 := by
  have := or63 ⟨x.toNat, by omega⟩ ⟨j, hj⟩
  simp only [show ((x.toNat : Nat) : Int) = x from Int.toNat_of_nonneg h0] at this
  exact this
theorem hex_bd (c : CL) (ks : List Nat) : ∀ (M : Tot), Bd M 63 → Bd (ks.foldl (hexStep c) M) 63 := by
  induction ks with
  | nil => intro M h; exact h
  | cons k ks ih =>
    intro M h
    have hc := h.cnt (by omega) (hexQ c k)
    obtain ⟨h1, h2⟩ := or63' _ hc.1 hc.2 ((k + 3) % 6) (Nat.mod_lt _ (by omega))
    exact ih _ (h.put _ _ h1 h2)
theorem ar_bd_hex (s : List CL) : ∀ (M : Tot), Bd M 63 → Bd (s.foldl (arStep 1) M) 63 := by
  induction s with
  | nil => intro M h; exact h
  | cons c s ih => intro M h; exact ih _ (hex_bd c _ M h)
end Go.Proofs.YtaeenefdbahfoaaDoor
namespace Go.Proofs.YtaeenefdbahfoaaDoor
set_option linter.unusedSimpArgs false
set_option linter.unusedVariables false
open Go.RowKit Go.Proofs.YtaeenefdbahfoaaDoorW.PrintWords Go.Proofs.YtaeenefdbahfoaaDoorW.PrintLast Go.Proofs.YtaeenefdbahfoaaDoorW.PrintMore
open H
open Go.RowKit
def aheadP (a b h c d k : Int) : Prop := b < d ∨ (b = d ∧ (a < c ∨ (a = c ∧ h < k)))
instance (a b h c d k : Int) : Decidable (aheadP a b h c d k) := by unfold aheadP; infer_instance
end Go.Proofs.YtaeenefdbahfoaaDoor
namespace Go.Proofs.YtaeenefdbahfoaaDoor
set_option linter.unusedSimpArgs false
set_option linter.unusedVariables false
open Go.RowKit Go.Proofs.YtaeenefdbahfoaaDoorW.PrintWords Go.Proofs.YtaeenefdbahfoaaDoorW.PrintLast Go.Proofs.YtaeenefdbahfoaaDoorW.PrintMore
open H
open Go.Shelf Go.RowKit Go.Lib Go.Sort
theorem cmp_lt (x y : CL) : cmpCell x y < 0 ↔ x.f0.f1 < y.f0.f1 ∨ (x.f0.f1 = y.f0.f1 ∧ (x.f0.f0 < y.f0.f0 ∨ (x.f0.f0 = y.f0.f0 ∧ x.f1 < y.f1))) := by
  unfold cmpCell
  split
  · rename_i h; exact ⟨fun _ => h, fun _ => by omega⟩
  · rename_i h
    split
    · exact ⟨fun h' => by omega, fun h' => absurd h' h⟩
    · exact ⟨fun h' => by omega, fun h' => absurd h' h⟩
theorem cl_ext {x y : CL} (h0 : x.f0.f0 = y.f0.f0) (h1 : x.f0.f1 = y.f0.f1) (h2 : x.f1 = y.f1) : x = y := by
  obtain ⟨⟨a, b⟩, h⟩ := x
  obtain ⟨⟨c, d⟩, k⟩ := y
  simp only at h0 h1 h2
  rw [h0, h1, h2]
def ltC (x y : CL) : Prop := cmpCell x y < 0
instance (x y : CL) : Decidable (ltC x y) := by unfold ltC; infer_instance
theorem ltC_irrefl (x : CL) : ¬ ltC x x := by unfold ltC; rw [cmp_lt]; omega
theorem ltC_trans {x y z : CL} (h1 : ltC x y) (h2 : ltC y z) : ltC x z := by unfold ltC at *; rw [cmp_lt] at *; omega
theorem ltC_tri (x y : CL) : ltC x y ∨ x = y ∨ ltC y x := by
  by_cases h : x = y
  · exact .inr (.inl h)
  · unfold ltC
    rw [cmp_lt, cmp_lt]
    have : ¬ (x.f0.f0 = y.f0.f0 ∧ x.f0.f1 = y.f0.f1 ∧ x.f1 = y.f1) := fun e => h (cl_ext e.1 e.2.1 e.2.2)
    omega
theorem ltC_le_trans {x y z : CL} (h1 : ¬ ltC y x) (h2 : ltC y z) : ltC x z := by
  rcases ltC_tri x y with h | rfl | h
  · exact ltC_trans h h2
  · exact h2
  · exact absurd h h1
/-- rising, each once -/
def Srt (l : List CL) : Prop := l.Pairwise ltC
instance (l : List CL) : Decidable (Srt l) := by unfold Srt; infer_instance
theorem sort_pair (l : List CL) : (sortCells l).Pairwise fun x y => ¬ ltC y x := by
  have h : (sortCells l).Pairwise fun x y => (!(ltOf cmpCell) y x) = true := by
    unfold sortCells
    apply List.pairwise_mergeSort
    · intro a b c h1 h2
      simp only [Bool.not_eq_true', lt_cell, decide_eq_false_iff_not] at *
      omega
    · intro a b
      simp only [Bool.or_eq_true, Bool.not_eq_true', lt_cell, decide_eq_false_iff_not]
      omega
  refine h.imp fun {a b} hab => ?_
  simp only [Bool.not_eq_true', lt_cell, decide_eq_false_iff_not] at hab
  unfold ltC
  rw [cmp_lt]
  exact hab
theorem sort_mem (l : List CL) (x : CL) : x ∈ sortCells l ↔ x ∈ l := List.mem_mergeSort
theorem comp_srt (d : Array CL) (hd : ∀ i j, i ≤ j → j < d.size → ¬ ltC d[j]! d[i]!) : ∀ m, m ≤ d.size → Srt (compactUpTo d m) ∧ ∀ x, x ∈ compactUpTo d m ↔ ∃ j, j < m ∧ d[j]! = x
  | 0, _ => by simp [compactUpTo, Srt]
  | m + 1, hm => by
    obtain ⟨hs, hx⟩ := comp_srt d hd m (by omega)
    rw [compactUpTo_succ]
    by_cases hk : keeps d m = true
    · rw [if_pos hk]
      refine ⟨List.pairwise_append.2 ⟨hs, by simp, fun a ha b hb => ?_⟩, fun x => ?_⟩
      · obtain rfl : b = d[m]! := by simpa using hb
        obtain ⟨j, hj, rfl⟩ := (hx a).1 ha
        have hne : d[m]! ≠ d[m - 1]! := by
          have : m = 0 ∨ d[m]! ≠ d[m - 1]! := by simpa [keeps] using hk
          rcases this with h | h
          · omega
          · exact h
        have h1 := hd j (m - 1) (by omega) (by omega)
        have h2 := hd (m - 1) m (by omega) (by omega)
        rcases ltC_tri d[m - 1]! d[m]! with h | h | h
        · exact ltC_le_trans h1 h
        · exact absurd h.symm hne
        · exact absurd h h2
      · rw [List.mem_append, hx]
        constructor
        · rintro (⟨j, hj, e⟩ | h)
          · exact ⟨j, by omega, e⟩
          · exact ⟨m, by omega, by simpa using (Eq.symm (by simpa using h))⟩
        · rintro ⟨j, hj, e⟩
          by_cases h : j < m
          · exact .inl ⟨j, h, e⟩
          · obtain rfl : j = m := by omega
            exact .inr (by simp [e])
    · rw [if_neg hk, List.append_nil]
      refine ⟨hs, fun x => ?_⟩
      rw [hx]
      constructor
      · rintro ⟨j, hj, e⟩
        exact ⟨j, by omega, e⟩
      · rintro ⟨j, hj, e⟩
        by_cases h : j < m
        · exact ⟨j, h, e⟩
        · obtain rfl : j = m := by omega
          have : ¬ (j = 0 ∨ d[j]! ≠ d[j - 1]!) := by simpa [keeps] using hk
          have h2 : d[j]! = d[j - 1]! := by
            by_cases h' : d[j]! = d[j - 1]!
            · exact h'
            · exact absurd (.inr h') this
          exact ⟨j - 1, by omega, h2.symm.trans e⟩
theorem ofL_both (l : List CL) : Srt (ofL l) ∧ ∀ x, x ∈ ofL l ↔ x ∈ l := by
  have hp := sort_pair l
  have := comp_srt (sortCells l).toArray (fun i j hij hj => by
    have hj' : j < (sortCells l).length := by simpa using hj
    have e : ∀ k, k < (sortCells l).length → (sortCells l).toArray[k]! = (sortCells l)[k]! := fun k hk => by simp
    rw [e j hj', e i (by omega)]
    rcases Nat.lt_or_ge i j with h | h
    · have := List.pairwise_iff_getElem.1 hp i j (by omega) hj' h
      rwa [getElem!_pos (sortCells l) j hj', getElem!_pos (sortCells l) i (by omega)]
    · obtain rfl : i = j := by omega
      exact ltC_irrefl _) (sortCells l).toArray.size (Nat.le_refl _)
  refine ⟨this.1, fun x => ?_⟩
  rw [ofL, this.2, ← sort_mem l x]
  constructor
  · rintro ⟨j, hj, e⟩
    have hj' : j < (sortCells l).length := by simpa using hj
    rw [← e]
    simp [hj']
  · intro hm
    obtain ⟨j, hj, e⟩ := List.getElem_of_mem hm
    exact ⟨j, by simpa using hj, by simp [hj, e]⟩
theorem ofL_mem (l : List CL) (x : CL) : x ∈ ofL l ↔ x ∈ l := (ofL_both l).2 x
/-- how many are ahead of a cell -/
def lo (l : List CL) (c : CL) : Nat := (l.filter fun x => decide (ltC x c)).length
end Go.Proofs.YtaeenefdbahfoaaDoor
namespace Go.Proofs.YtaeenefdbahfoaaDoor
set_option linter.unusedSimpArgs false
set_option linter.unusedVariables false
open Go.RowKit Go.Proofs.YtaeenefdbahfoaaDoorW.PrintWords Go.Proofs.YtaeenefdbahfoaaDoorW.PrintLast Go.Proofs.YtaeenefdbahfoaaDoorW.PrintMore
open H
def nxtV (b0 b1 s0 s1 : Int) (half : Int) (live : Bool) (n : Int) : Bool := if half < 0 ∨ 1 < half ∨ n < 0 ∨ 63 < n then false else nxB (if live = true then (if half = 0 then s0 else s1) else (if half = 0 then b0 else b1)) n
/-- a rule: of a half, that lives or not, with a neighbourhood -/
abbrev Rul := Int → Bool → Int → Bool
def keepStep (nx : Rul) (st : Tot × List CL) (c : CL) : Tot × List CL := (delC st.1 c, if nx c.f1 true (cntC st.1 c) = true then st.2 ++ [c] else st.2)
def keepL (nx : Rul) (M : Tot) (s : List CL) : Tot × List CL := s.foldl (keepStep nx) (M, [])
def bornL (nx : Rul) (M : Tot) : List CL := (M.filter fun p => nx p.1.f1 false p.2).map (·.1)
/-- the cells that live then, in some order -/
def nextRaw (nx : Rul) (l : Int) (s : List CL) : List CL := (keepL nx (arL l s) s).2 ++ bornL nx (keepL nx (arL l s) s).1
def nextL (nx : Rul) (l : Int) (s : List CL) : List CL := ofL (nextRaw nx l s)
theorem cntC_cons (p : CL × Int) (M : Tot) (q : CL) : cntC (p :: M) q = if p.1 = q then p.2 else cntC M q := by
  unfold cntC
  rw [List.findIdx?_cons]
  by_cases h : p.1 = q
  · simp [h]
  · simp only [h, decide_false, Bool.false_eq_true, ↓reduceIte]
    cases M.findIdx? (fun p => decide (p.1 = q)) <;> simp
theorem putC_cons (p : CL × Int) (M : Tot) (q : CL) (x : Int) : putC (p :: M) q x = if p.1 = q then (q, x) :: M else p :: putC M q x := by
  unfold putC
  rw [List.findIdx?_cons]
  by_cases h : p.1 = q
  · simp [h]
  · simp only [h, decide_false, Bool.false_eq_true, ↓reduceIte]
    cases M.findIdx? (fun p => decide (p.1 = q)) <;> simp
theorem delC_cons (p : CL × Int) (M : Tot) (q : CL) : delC (p :: M) q = if p.1 = q then M else p :: delC M q := by
  unfold delC
  rw [List.findIdx?_cons]
  by_cases h : p.1 = q
  · simp [h]
  · simp only [h, decide_false, Bool.false_eq_true, ↓reduceIte]
    cases M.findIdx? (fun p => decide (p.1 = q)) <;> simp
theorem cnt_put (q : CL) (x : Int) (r : CL) : ∀ M : Tot, cntC (putC M q x) r = if q = r then x else cntC M r
  | [] => by
    rw [show putC [] q x = [(q, x)] from rfl, cntC_cons]
  | p :: M => by
    rw [putC_cons]
    by_cases h : p.1 = q
    · rw [if_pos h, cntC_cons, cntC_cons]
      by_cases hr : q = r
      · simp [hr]
      · rw [if_neg hr, if_neg hr, if_neg (fun e => hr (h.symm.trans e))]
    · rw [if_neg h, cntC_cons, cntC_cons, cnt_put q x r M]
      by_cases hp : p.1 = r
      · rw [if_pos hp, if_pos hp, if_neg (fun e => h (hp.trans e.symm))]
      · rw [if_neg hp, if_neg hp]
/-- no key twice -/
def KN (M : Tot) : Prop := (M.map (·.1)).Nodup
theorem KN_nil : KN [] := List.nodup_nil
theorem put_key (q : CL) (x : Int) (r : CL) : ∀ M : Tot, r ∈ (putC M q x).map (·.1) ↔ r = q ∨ r ∈ M.map (·.1)
  | [] => by simp [show putC [] q x = [(q, x)] from rfl]
  | p :: M => by
    rw [putC_cons]
    by_cases h : p.1 = q
    · rw [if_pos h]
      simp only [List.map_cons, List.mem_cons, h]
      constructor
      · rintro (h | h) <;> simp [h]
      · rintro (h | h | h) <;> simp [h]
    · rw [if_neg h]
      simp only [List.map_cons, List.mem_cons, put_key q x r M]
      constructor
      · rintro (h | h | h) <;> simp [h]
      · rintro (h | h | h) <;> simp [h]
theorem KN_put (q : CL) (x : Int) : ∀ M : Tot, KN M → KN (putC M q x)
  | [], _ => by simp [KN, show putC [] q x = [(q, x)] from rfl]
  | p :: M, h => by
    unfold KN at *
    rw [List.map_cons, List.nodup_cons] at h
    rw [putC_cons]
    by_cases hp : p.1 = q
    · rw [if_pos hp, List.map_cons, List.nodup_cons]
      exact ⟨by rw [← hp]; exact h.1, h.2⟩
    · rw [if_neg hp, List.map_cons, List.nodup_cons]
      refine ⟨fun hm => ?_, KN_put q x M h.2⟩
      rcases (put_key q x p.1 M).1 hm with e | e
      · exact hp e
      · exact h.1 e
theorem cnt_no (q : CL) : ∀ M : Tot, q ∉ M.map (·.1) → cntC M q = 0
  | [], _ => rfl
  | p :: M, h => by
    rw [List.map_cons, List.mem_cons, not_or] at h
    rw [cntC_cons, if_neg (fun e => h.1 e.symm), cnt_no q M h.2]
theorem cnt_mem (q : CL) (n : Int) : ∀ M : Tot, KN M → (q, n) ∈ M → cntC M q = n
  | [], _, h => by cases h
  | p :: M, hk, h => by
    unfold KN at hk
    rw [List.map_cons, List.nodup_cons] at hk
    rw [cntC_cons]
    rcases List.mem_cons.1 h with e | e
    · subst e; simp
    · rw [if_neg (fun hp => hk.1 (List.mem_map.2 ⟨_, e, hp.symm⟩)), cnt_mem q n M hk.2 e]
theorem del_mem (q : CL) (p : CL × Int) : ∀ M : Tot, KN M → (p ∈ delC M q ↔ p ∈ M ∧ p.1 ≠ q)
  | [], _ => by simp [show delC [] q = [] from rfl]
  | a :: M, hk => by
    unfold KN at hk
    rw [List.map_cons, List.nodup_cons] at hk
    rw [delC_cons]
    by_cases h : a.1 = q
    · rw [if_pos h]
      constructor
      · intro hm
        exact ⟨List.mem_cons_of_mem _ hm, fun e => hk.1 (List.mem_map.2 ⟨p, hm, e.trans h.symm⟩)⟩
      · rintro ⟨hm, hn⟩
        rcases List.mem_cons.1 hm with rfl | hm
        · exact absurd h hn
        · exact hm
    · rw [if_neg h, List.mem_cons, List.mem_cons, del_mem q p M hk.2]
      constructor
      · rintro (rfl | h')
        · exact ⟨.inl rfl, h⟩
        · exact ⟨.inr h'.1, h'.2⟩
      · rintro ⟨rfl | h', hn⟩
        · exact .inl rfl
        · exact .inr ⟨h', hn⟩
theorem KN_del (q : CL) : ∀ M : Tot, KN M → KN (delC M q)
  | [], _ => KN_nil
  | a :: M, hk => by
    have hk0 := hk
    unfold KN at hk
    rw [List.map_cons, List.nodup_cons] at hk
    rw [delC_cons]
    by_cases h : a.1 = q
    · rw [if_pos h]; exact hk.2
    · rw [if_neg h]
      unfold KN
      rw [List.map_cons, List.nodup_cons]
      refine ⟨fun hm => ?_, KN_del q M hk.2⟩
      obtain ⟨p, hp, e⟩ := List.mem_map.1 hm
      exact hk.1 (List.mem_map.2 ⟨p, ((del_mem q p M hk.2).1 hp).1, e⟩)
theorem cnt_del (q r : CL) (M : Tot) (hk : KN M) (h : r ≠ q) : cntC (delC M q) r = cntC M r := by
  induction M with
  | nil => rfl
  | cons a M ih =>
    unfold KN at hk
    rw [List.map_cons, List.nodup_cons] at hk
    rw [delC_cons]
    by_cases ha : a.1 = q
    · rw [if_pos ha, cntC_cons, if_neg (fun e => h (e.symm.trans ha))]
    · rw [if_neg ha, cntC_cons, cntC_cons, ih hk.2]
/-- the loop over those that live -/
theorem keep_fold (nx : Rul) : ∀ (s : List CL) (M : Tot) (acc : List CL), KN M → s.Nodup →
    (s.foldl (keepStep nx) (M, acc)).2 = acc ++ s.filter (fun c => nx c.f1 true (cntC M c)) ∧ KN (s.foldl (keepStep nx) (M, acc)).1 ∧ ∀ p, p ∈ (s.foldl (keepStep nx) (M, acc)).1 ↔ p ∈ M ∧ p.1 ∉ s
  | [], M, acc, hk, _ => by simp [hk]
  | c :: s, M, acc, hk, hs => by
    rw [List.nodup_cons] at hs
    rw [List.foldl_cons]
    obtain ⟨h1, h2, h3⟩ := keep_fold nx s (delC M c) (if nx c.f1 true (cntC M c) = true then acc ++ [c] else acc) (KN_del c M hk) hs.2
    refine ⟨?_, h2, fun p => ?_⟩
    · refine h1.trans ?_
      have e : s.filter (fun d => nx d.f1 true (cntC (delC M c) d)) = s.filter (fun d => nx d.f1 true (cntC M d)) := List.filter_congr fun d hd => by rw [cnt_del c d M hk (fun e => hs.1 (e ▸ hd))]
      rw [e, List.filter_cons]
      split <;> simp
    · refine (h3 p).trans ?_
      rw [del_mem c p M hk, List.mem_cons, not_or]
      exact ⟨fun h => ⟨h.1.1, h.1.2, h.2⟩, fun h => ⟨⟨h.1, h.2.1⟩, h.2.2⟩⟩
theorem raw_mem (nx : Rul) (M : Tot) (s : List CL) (hk : KN M) (hs : s.Nodup) (h0 : ∀ h, nx h false 0 = false) (x : CL) :
    x ∈ (keepL nx M s).2 ++ bornL nx (keepL nx M s).1 ↔ nx x.f1 (decide (x ∈ s)) (cntC M x) = true := by
  obtain ⟨h1, _, h3⟩ := keep_fold nx s M [] hk hs
  rw [List.mem_append]
  unfold keepL
  rw [h1, List.nil_append, List.mem_filter]
  unfold bornL
  simp only [List.mem_map, List.mem_filter, h3]
  by_cases hx : x ∈ s
  · rw [decide_eq_true hx]
    constructor
    · rintro (h | ⟨p, ⟨⟨_, hn⟩, _⟩, rfl⟩)
      · exact h.2
      · exact absurd hx hn
    · exact fun h => .inl ⟨hx, h⟩
  · rw [decide_eq_false hx]
    constructor
    · rintro (h | ⟨p, ⟨⟨hm, _⟩, hb⟩, rfl⟩)
      · exact absurd h.1 hx
      · rw [cnt_mem p.1 p.2 M hk hm]; exact hb
    · intro h
      refine .inr ⟨(x, cntC M x), ⟨⟨?_, hx⟩, h⟩, rfl⟩
      by_cases hm : x ∈ M.map (·.1)
      · obtain ⟨p, hp, rfl⟩ := List.mem_map.1 hm
        rw [cnt_mem p.1 p.2 M hk hp]
        exact hp
      · rw [cnt_no x M hm, h0] at h; cases h
/-- the keys of all neighbourhoods -/
theorem KN_tri (ds : List CL) : ∀ M : Tot, KN M → KN (ds.foldl triStep M) := by
  induction ds with
  | nil => exact fun M h => h
  | cons d ds ih => exact fun M h => ih _ (KN_put _ _ _ h)
theorem KN_hex (c : CL) (ks : List Nat) : ∀ M : Tot, KN M → KN (ks.foldl (hexStep c) M) := by
  induction ks with
  | nil => exact fun M h => h
  | cons d ds ih => exact fun M h => ih _ (KN_put _ _ _ h)
theorem KN_ar (l : Int) (s : List CL) : ∀ M : Tot, KN M → KN (s.foldl (arStep l) M) := by
  induction s with
  | nil => exact fun M h => h
  | cons c s ih =>
    intro M h
    refine ih _ ?_
    unfold arStep
    split
    · exact KN_hex c _ M h
    · exact KN_tri _ M h
theorem KN_arL (l : Int) (s : List CL) : KN (arL l s) := KN_ar l s [] KN_nil
theorem tri_key (ds : List CL) (r : CL) : ∀ M : Tot, r ∈ (ds.foldl triStep M).map (·.1) → r ∈ ds ∨ r ∈ M.map (·.1) := by
  induction ds with
  | nil => exact fun M h => .inr h
  | cons d ds ih =>
    intro M h
    rcases ih _ h with h | h
    · exact .inl (List.mem_cons_of_mem _ h)
    · rcases (put_key _ _ r M).1 h with e | e
      · exact .inl (by rw [e]; exact List.mem_cons_self)
      · exact .inr e
theorem hex_key (c : CL) (r : CL) (ks : List Nat) : ∀ M : Tot, r ∈ (ks.foldl (hexStep c) M).map (·.1) → r.f1 = 0 ∨ r ∈ M.map (·.1) := by
  induction ks with
  | nil => exact fun M h => .inr h
  | cons d ds ih =>
    intro M h
    rcases ih _ h with h | h
    · exact .inl h
    · rcases (put_key _ _ r M).1 h with e | e
      · exact .inl (by rw [e]; rfl)
      · exact .inr e
/-- a half that may be -/
def hOK (l h : Int) : Prop := (h = 0 ∨ h = 1) ∧ (l = 1 → h = 0)
theorem offs_hOK (l h : Int) (hl : 1 ≤ l ∧ l ≤ 3) : ∀ d ∈ offs l h, hOK l d.f1 := by
  obtain ⟨h1, h2⟩ := hl
  have : l = 1 ∨ l = 2 ∨ l = 3 := by omega
  intro d hd
  unfold offs at hd
  rcases this with rfl | rfl | rfl
  · rw [if_pos rfl] at hd
    exact (by decide : ∀ d ∈ [mk 0 (-1) 0, mk 1 (-1) 0, mk (-1) 0 0, mk 1 0 0, mk (-1) 1 0, mk 0 1 0], (d.f1 = 0 ∨ d.f1 = 1) ∧ ((1 : Int) = 1 → d.f1 = 0)) d hd
  · simp only [show ¬ ((2 : Int) = 1) by omega, ↓reduceIte] at hd
    split at hd
    · exact (by decide : ∀ d ∈ [mk 0 (-1) 1, mk (-1) 0 1, mk 0 0 1], (d.f1 = 0 ∨ d.f1 = 1) ∧ ((2 : Int) = 1 → d.f1 = 0)) d hd
    · exact (by decide : ∀ d ∈ [mk 0 0 0, mk 1 0 0, mk 0 1 0], (d.f1 = 0 ∨ d.f1 = 1) ∧ ((2 : Int) = 1 → d.f1 = 0)) d hd
  · simp only [show ¬ ((3 : Int) = 1) by omega, show ¬ ((3 : Int) = 2) by omega, ↓reduceIte] at hd
    split at hd
    · exact (by decide : ∀ d ∈ [mk (-1) (-1) 1, mk 0 (-1) 0, mk 0 (-1) 1, mk 1 (-1) 0, mk 1 (-1) 1, mk (-1) 0 0, mk (-1) 0 1, mk 0 0 1, mk 1 0 0, mk (-1) 1 0, mk (-1) 1 1, mk 0 1 0], (d.f1 = 0 ∨ d.f1 = 1) ∧ ((3 : Int) = 1 → d.f1 = 0)) d hd
    · exact (by decide : ∀ d ∈ [mk 0 (-1) 1, mk 1 (-1) 0, mk 1 (-1) 1, mk (-1) 0 1, mk 0 0 0, mk 1 0 0, mk 1 0 1, mk (-1) 1 0, mk (-1) 1 1, mk 0 1 0, mk 0 1 1, mk 1 1 0], (d.f1 = 0 ∨ d.f1 = 1) ∧ ((3 : Int) = 1 → d.f1 = 0)) d hd
theorem bes_hOK (l : Int) (c : CL) (hl : 1 ≤ l ∧ l ≤ 3) : ∀ d ∈ besL l c, hOK l d.f1 := by
  intro d hd
  obtain ⟨e, he, rfl⟩ := List.mem_map.1 hd
  exact offs_hOK l _ hl e he
theorem ar_key (l : Int) (hl : 1 ≤ l ∧ l ≤ 3) (r : CL) (s : List CL) : ∀ M : Tot, r ∈ (s.foldl (arStep l) M).map (·.1) → hOK l r.f1 ∨ r ∈ M.map (·.1) := by
  induction s with
  | nil => exact fun M h => .inr h
  | cons c s ih =>
    intro M h
    rcases ih _ h with h | h
    · exact .inl h
    · unfold arStep at h
      split at h
      · rcases hex_key c r _ M h with h | h
        · exact .inl ⟨.inl h, fun _ => h⟩
        · exact .inr h
      · rcases tri_key _ r M h with h | h
        · exact .inl (bes_hOK l c hl r h)
        · exact .inr h
theorem arL_key (l : Int) (hl : 1 ≤ l ∧ l ≤ 3) (r : CL) (s : List CL) (h : r ∈ (arL l s).map (·.1)) : hOK l r.f1 := by
  rcases ar_key l hl r s [] h with h | h
  · exact h
  · cases h
/-- those beside: both ways -/
theorem mut_pure (l r : Int) (hl : 1 ≤ l ∧ l ≤ 3) (hr : hOK l r) : (∀ y ∈ offs l r, (-1 ≤ y.f0.f0 ∧ y.f0.f0 ≤ 1 ∧ -1 ≤ y.f0.f1 ∧ y.f0.f1 ≤ 1) ∧ mk (-y.f0.f0) (-y.f0.f1) r ∈ offs l y.f1) ∧ (offs l r).Nodup := by
  obtain ⟨hr, h1⟩ := hr
  have : l = 1 ∨ l = 2 ∨ l = 3 := by omega
  rcases this with rfl | rfl | rfl
  · obtain rfl := h1 rfl
    exact ⟨by decide, by decide⟩
  · rcases hr with rfl | rfl <;> exact ⟨by decide, by decide⟩
  · rcases hr with rfl | rfl <;> exact ⟨by decide, by decide⟩
theorem bes_near (l : Int) (c d : CL) (hl : 1 ≤ l ∧ l ≤ 3) (hc : hOK l c.f1) (h : d ∈ besL l c) : c.f0.f0 - 1 ≤ d.f0.f0 ∧ d.f0.f0 ≤ c.f0.f0 + 1 ∧ c.f0.f1 - 1 ≤ d.f0.f1 ∧ d.f0.f1 ≤ c.f0.f1 + 1 := by
  obtain ⟨e, he, rfl⟩ := List.mem_map.1 h
  have := ((mut_pure l c.f1 hl hc).1 e he).1
  simp only [sh]
  omega
theorem bes_mut1 (l : Int) (c d : CL) (hl : 1 ≤ l ∧ l ≤ 3) (hc : hOK l c.f1) (h : d ∈ besL l c) : c ∈ besL l d := by
  obtain ⟨e, he, rfl⟩ := List.mem_map.1 h
  have h2 := ((mut_pure l c.f1 hl hc).1 e he).2
  refine List.mem_map.2 ⟨_, h2, ?_⟩
  refine cl_of ?_ ?_ ?_
  · simp only [sh, mk]; omega
  · simp only [sh, mk]; omega
  · rfl
theorem bes_mut (l : Int) (c d : CL) (hl : 1 ≤ l ∧ l ≤ 3) (hc : hOK l c.f1) (hd : hOK l d.f1) : d ∈ besL l c ↔ c ∈ besL l d := ⟨bes_mut1 l c d hl hc, bes_mut1 l d c hl hd⟩
theorem sh_inj' (a b : Int) {x y : CL} (h : sh a b x = sh a b y) : x = y := by
  have h0 := congrArg (fun z : CL => z.f0.f0) h
  have h1 := congrArg (fun z : CL => z.f0.f1) h
  have h2 := congrArg (fun z : CL => z.f1) h
  simp only [sh] at h0 h1 h2
  exact cl_of (by omega) (by omega) h2
theorem nd_map {α β : Type} (f : α → β) (hf : ∀ x y, f x = f y → x = y) : ∀ xs : List α, xs.Nodup → (xs.map f).Nodup
  | [], _ => List.nodup_nil
  | x :: xs, h => by
    rw [List.nodup_cons] at h
    rw [List.map_cons, List.nodup_cons]
    refine ⟨fun hm => ?_, nd_map f hf xs h.2⟩
    obtain ⟨y, hy, e⟩ := List.mem_map.1 hm
    exact h.1 (hf _ _ e ▸ hy)
theorem bes_nodup (l : Int) (c : CL) (hl : 1 ≤ l ∧ l ≤ 3) (hc : hOK l c.f1) : (besL l c).Nodup := nd_map _ (fun _ _ => sh_inj' _ _) _ (mut_pure l c.f1 hl hc).2
/-- how often one is told -/
theorem tri_cnt (q : CL) (ds : List CL) : ∀ M : Tot, ds.Nodup → cntC (ds.foldl triStep M) q = cntC M q + (if q ∈ ds then 1 else 0) := by
  induction ds with
  | nil => intro M _; simp
  | cons d ds ih =>
    intro M h
    rw [List.nodup_cons] at h
    rw [List.foldl_cons, ih _ h.2]
    unfold triStep
    rw [cnt_put]
    by_cases e : d = q
    · subst e
      rw [if_pos rfl, if_neg h.1, if_pos List.mem_cons_self]; omega
    · rw [if_neg e]
      congr 1
      simp only [List.mem_cons]
      by_cases hq : q ∈ ds
      · rw [if_pos hq, if_pos (.inr hq)]
      · rw [if_neg hq, if_neg (fun h => h.elim (fun e' => e e'.symm) hq)]
theorem ar_cnt (l : Int) (hl : 1 ≤ l ∧ l ≤ 3) (h1 : ¬ l = 1) (q : CL) (s : List CL) : ∀ M : Tot, (∀ c ∈ s, hOK l c.f1) → cntC (s.foldl (arStep l) M) q = cntC M q + ((s.filter fun c => decide (q ∈ besL l c)).length : Int) := by
  induction s with
  | nil => intro M _; simp
  | cons c s ih =>
    intro M h
    rw [List.foldl_cons, ih _ (fun d hd => h d (List.mem_cons_of_mem _ hd))]
    unfold arStep
    rw [if_neg h1, tri_cnt q _ M (bes_nodup l c hl (h c List.mem_cons_self)), List.filter_cons]
    by_cases e : q ∈ besL l c
    · simp [e]; omega
    · simp [e]
theorem both_len {α : Type} [DecidableEq α] (a b : List α) (ha : a.Nodup) (hb : b.Nodup) : (a.filter fun x => decide (x ∈ b)).length = (b.filter fun x => decide (x ∈ a)).length := by
  have h : (a.filter fun x => decide (x ∈ b)).Perm (b.filter fun x => decide (x ∈ a)) := by
    rw [List.perm_ext_iff_of_nodup (List.Pairwise.filter _ ha) (List.Pairwise.filter _ hb)]
    intro x
    simp [and_comm]
  exact h.length_eq
/-- hex: bit by bit -/
def bitOf (x : Int) (j : Nat) : Bool := x.toNat.testBit j
theorem or_bit : ∀ (x : Fin 64) (j k : Fin 6), (Go.bits .or .i64 (x.1 : Int) ((2 : Int) ^ j.1)).toNat.testBit k.1 = (x.1.testBit k.1 || decide (j.1 = k.1)) := by decide +kernel
theorem or_bit' (x : Int) (h0 : 0 ≤ x) (h1 : x ≤ 63) (j k : Nat) (hj : j < 6) (hk : k < 6) : bitOf (Go.bits .or .i64 x ((2 : Int) ^ j)) k = (bitOf x k || decide (j = k)) := by
  have := or_bit ⟨x.toNat, by omega⟩ ⟨j, hj⟩ ⟨k, hk⟩
  simp only [show ((x.toNat : Nat) : Int) = x from Int.toNat_of_nonneg h0] at this
  exact this
theorem bit_ext0 : ∀ (x y : Fin 64), (∀ j : Fin 6, x.1.testBit j.1 = y.1.testBit j.1) → x = y := by decide +kernel
theorem bit_ext (x y : Int) (h0 : 0 ≤ x) (h1 : x ≤ 63) (h2 : 0 ≤ y) (h3 : y ≤ 63) (h : ∀ j, j < 6 → bitOf x j = bitOf y j) : x = y := by
  have := bit_ext0 ⟨x.toNat, by omega⟩ ⟨y.toNat, by omega⟩ (fun j => h j.1 j.2)
  have := congrArg Fin.val this
  simp only at this
  omega
theorem hex_bit (c q : CL) (j : Nat) (hj : j < 6) (ks : List Nat) : ∀ M : Tot, Bd M 63 → bitOf (cntC (ks.foldl (hexStep c) M) q) j = (bitOf (cntC M q) j || ks.any fun k => decide (hexQ c k = q ∧ (k + 3) % 6 = j)) := by
  induction ks with
  | nil => intro M _; simp
  | cons k ks ih =>
    intro M h
    have hc := h.cnt (by omega) (hexQ c k)
    have hj6 : (k + 3) % 6 < 6 := Nat.mod_lt _ (by omega)
    obtain ⟨h1, h2⟩ := or63' _ hc.1 hc.2 ((k + 3) % 6) hj6
    rw [List.foldl_cons, ih (hexStep c M k) (h.put _ _ h1 h2), List.any_cons]
    unfold hexStep
    rw [cnt_put]
    by_cases e : hexQ c k = q
    · rw [if_pos e, or_bit' _ hc.1 hc.2 _ _ hj6 hj, e]
      simp [Bool.or_assoc]
    · rw [if_neg e]
      simp [e]
theorem six_back : ∀ k : Fin 6, ∀ j : Fin 6, (k.1 + 3) % 6 = j.1 → sxA k.1 = - sxA j.1 ∧ sxB k.1 = - sxB j.1 := by decide
theorem hex_any (c q : CL) (j : Nat) (hj : j < 6) (hc : c.f1 = 0) (hq : q.f1 = 0) : ((List.range 6).any fun k => decide (hexQ c k = q ∧ (k + 3) % 6 = j)) = decide (c = hexQ q j) := by
  rw [Bool.eq_iff_iff]
  simp only [List.any_eq_true, List.mem_range, decide_eq_true_eq]
  constructor
  · rintro ⟨k, hk, rfl, h2⟩
    have := six_back ⟨k, hk⟩ ⟨j, hj⟩ h2
    simp only at this
    refine cl_of ?_ ?_ ?_
    · simp only [hexQ, mk]; omega
    · simp only [hexQ, mk]; omega
    · rw [hc]; rfl
  · rintro rfl
    have hm : ((j + 3) % 6 + 3) % 6 = j := by omega
    refine ⟨(j + 3) % 6, Nat.mod_lt _ (by omega), ?_, hm⟩
    have := six_back ⟨(j + 3) % 6, Nat.mod_lt _ (by omega)⟩ ⟨j, hj⟩ hm
    simp only at this
    refine cl_of ?_ ?_ ?_
    · simp only [hexQ, mk]; omega
    · simp only [hexQ, mk]; omega
    · rw [hq]; rfl
theorem hex_cnt (q : CL) (hq : q.f1 = 0) (j : Nat) (hj : j < 6) (s : List CL) : ∀ M : Tot, Bd M 63 → (∀ c ∈ s, c.f1 = 0) → bitOf (cntC (s.foldl (arStep 1) M) q) j = (bitOf (cntC M q) j || decide (hexQ q j ∈ s)) := by
  induction s with
  | nil => intro M _ _; simp
  | cons c s ih =>
    intro M h hs
    have hb : Bd (arStep 1 M c) 63 := hex_bd c _ M h
    rw [List.foldl_cons, ih _ hb (fun d hd => hs d (List.mem_cons_of_mem _ hd))]
    have e : cntC (arStep 1 M c) q = cntC ((List.range 6).foldl (hexStep c) M) q := rfl
    rw [e, hex_bit c q j hj _ M h, hex_any c q j hj (hs c List.mem_cons_self) hq, Bool.or_assoc]
    congr 1
    rw [Bool.eq_iff_iff]
    simp only [Bool.or_eq_true, decide_eq_true_eq, List.mem_cons]
    constructor
    · rintro (h | h)
      · exact .inl h.symm
      · exact .inr h
    · rintro (h | h)
      · exact .inl h.symm
      · exact .inr h
def b2 (p : Bool) (n : Int) : Int := if p = true then n else 0
/-- the six that may be beside a cell, as a number -/
def hexN (s : List CL) (q : CL) : Int := b2 (decide (hexQ q 0 ∈ s)) 1 + b2 (decide (hexQ q 1 ∈ s)) 2 + b2 (decide (hexQ q 2 ∈ s)) 4 + b2 (decide (hexQ q 3 ∈ s)) 8 + b2 (decide (hexQ q 4 ∈ s)) 16 + b2 (decide (hexQ q 5 ∈ s)) 32
theorem six_bits : ∀ (p0 p1 p2 p3 p4 p5 : Bool), (0 ≤ b2 p0 1 + b2 p1 2 + b2 p2 4 + b2 p3 8 + b2 p4 16 + b2 p5 32 ∧ b2 p0 1 + b2 p1 2 + b2 p2 4 + b2 p3 8 + b2 p4 16 + b2 p5 32 ≤ 63) ∧
    bitOf (b2 p0 1 + b2 p1 2 + b2 p2 4 + b2 p3 8 + b2 p4 16 + b2 p5 32) 0 = p0 ∧ bitOf (b2 p0 1 + b2 p1 2 + b2 p2 4 + b2 p3 8 + b2 p4 16 + b2 p5 32) 1 = p1 ∧ bitOf (b2 p0 1 + b2 p1 2 + b2 p2 4 + b2 p3 8 + b2 p4 16 + b2 p5 32) 2 = p2 ∧
    bitOf (b2 p0 1 + b2 p1 2 + b2 p2 4 + b2 p3 8 + b2 p4 16 + b2 p5 32) 3 = p3 ∧ bitOf (b2 p0 1 + b2 p1 2 + b2 p2 4 + b2 p3 8 + b2 p4 16 + b2 p5 32) 4 = p4 ∧ bitOf (b2 p0 1 + b2 p1 2 + b2 p2 4 + b2 p3 8 + b2 p4 16 + b2 p5 32) 5 = p5 := by decide +kernel
theorem hexN_bd (s : List CL) (q : CL) : 0 ≤ hexN s q ∧ hexN s q ≤ 63 := (six_bits _ _ _ _ _ _).1
theorem hexN_bit (s : List CL) (q : CL) (j : Nat) (hj : j < 6) : bitOf (hexN s q) j = decide (hexQ q j ∈ s) := by
  obtain ⟨_, h0, h1, h2, h3, h4, h5⟩ := six_bits (decide (hexQ q 0 ∈ s)) (decide (hexQ q 1 ∈ s)) (decide (hexQ q 2 ∈ s)) (decide (hexQ q 3 ∈ s)) (decide (hexQ q 4 ∈ s)) (decide (hexQ q 5 ∈ s))
  have : j = 0 ∨ j = 1 ∨ j = 2 ∨ j = 3 ∨ j = 4 ∨ j = 5 := by omega
  rcases this with rfl | rfl | rfl | rfl | rfl | rfl
  · exact h0
  · exact h1
  · exact h2
  · exact h3
  · exact h4
  · exact h5
/-- the neighbourhood of a cell in a set -/
def ngh (l : Int) (s : List CL) (q : CL) : Int := if l = 1 then hexN s q else (((besL l q).filter fun d => decide (d ∈ s)).length : Int)
theorem cnt_arL (l : Int) (hl : 1 ≤ l ∧ l ≤ 3) (s : List CL) (hn : s.Nodup) (hs : ∀ c ∈ s, hOK l c.f1) (q : CL) (hq : hOK l q.f1) : cntC (arL l s) q = ngh l s q := by
  unfold ngh
  by_cases h1 : l = 1
  · rw [if_pos h1]
    subst h1
    have hb := ar_bd_hex s [] (Bd_nil 63)
    have hc := hb.cnt (by omega) q
    refine bit_ext _ _ hc.1 hc.2 (hexN_bd s q).1 (hexN_bd s q).2 (fun j hj => ?_)
    rw [hexN_bit s q j hj]
    have := hex_cnt q (hq.2 rfl) j hj s [] (Bd_nil 63) (fun c hc => (hs c hc).2 rfl)
    refine this.trans ?_
    rw [show bitOf (cntC [] q) j = false by simp [cntC, bitOf], Bool.false_or]
  · rw [if_neg h1]
    unfold arL
    rw [ar_cnt l hl h1 q s [] hs, show cntC [] q = 0 from rfl, Int.zero_add]
    congr 1
    rw [← both_len s (besL l q) hn (bes_nodup l q hl hq)]
    congr 1
    exact List.filter_congr fun c hc => by rw [decide_eq_decide]; exact bes_mut l c q hl (hs c hc) hq
/-- who lives then -/
theorem next_mem (nx : Rul) (l : Int) (hl : 1 ≤ l ∧ l ≤ 3) (h0 : ∀ h, nx h false 0 = false) (s : List CL) (hn : s.Nodup) (hs : ∀ c ∈ s, hOK l c.f1) (x : CL) :
    x ∈ nextL nx l s ↔ hOK l x.f1 ∧ nx x.f1 (decide (x ∈ s)) (ngh l s x) = true := by
  have h := raw_mem nx (arL l s) s (KN_arL l s) hn h0 x
  unfold nextL nextRaw
  rw [ofL_mem, h]
  by_cases hx : hOK l x.f1
  · rw [cnt_arL l hl s hn hs x hx]
    exact ⟨fun h => ⟨hx, h⟩, fun h => h.2⟩
  · have hxs : x ∉ s := fun h => hx (hs x h)
    have hk : x ∉ (arL l s).map (·.1) := fun h => hx (arL_key l hl x s h)
    rw [cnt_no x _ hk, decide_eq_false hxs, h0]
    exact ⟨fun h => (by cases h), fun h => absurd h.1 hx⟩
theorem hexQ_bes (q : CL) (j : Nat) (hj : j < 6) : hexQ q j ∈ besL 1 q := by
  refine List.mem_map.2 ⟨mk (sxA j) (sxB j) 0, ?_, rfl⟩
  have : ∀ j : Fin 6, mk (sxA j.1) (sxB j.1) 0 ∈ offs 1 q.f1 := by
    unfold offs
    rw [if_pos rfl]
    decide
  exact this ⟨j, hj⟩
/-- the neighbourhood is of those beside alone -/
theorem ngh_congr (l : Int) (s s' : List CL) (q : CL) (h : ∀ d ∈ besL l q, d ∈ s ↔ d ∈ s') : ngh l s q = ngh l s' q := by
  unfold ngh
  by_cases h1 : l = 1
  · subst h1
    rw [if_pos rfl, if_pos rfl]
    have e : ∀ j, j < 6 → decide (hexQ q j ∈ s) = decide (hexQ q j ∈ s') := fun j hj => by rw [decide_eq_decide]; exact h _ (hexQ_bes q j hj)
    unfold hexN
    rw [e 0 (by omega), e 1 (by omega), e 2 (by omega), e 3 (by omega), e 4 (by omega), e 5 (by omega)]
  · rw [if_neg h1, if_neg h1]
    congr 2
    exact List.filter_congr fun d hd => by rw [decide_eq_decide]; exact h d hd
theorem ngh_nil (l : Int) (q : CL) : ngh l [] q = 0 := by
  unfold ngh
  split
  · simp [hexN, b2]
  · simp
theorem ngh_ne (l : Int) (s : List CL) (q : CL) (h : ¬ ngh l s q = 0) : ∃ d ∈ besL l q, d ∈ s := by
  apply Classical.byContradiction
  intro hn
  refine h ((ngh_congr l s [] q fun d hd => ?_).trans (ngh_nil l q))
  exact ⟨fun hm => absurd ⟨d, hd, hm⟩ hn, fun hm => by cases hm⟩
theorem next_near (nx : Rul) (l : Int) (hl : 1 ≤ l ∧ l ≤ 3) (h0 : ∀ h, nx h false 0 = false) (s : List CL) (hn : s.Nodup) (hs : ∀ c ∈ s, hOK l c.f1) (x : CL) (hx : x ∈ nextL nx l s) :
    ∃ c ∈ s, c.f0.f0 - 1 ≤ x.f0.f0 ∧ x.f0.f0 ≤ c.f0.f0 + 1 ∧ c.f0.f1 - 1 ≤ x.f0.f1 ∧ x.f0.f1 ≤ c.f0.f1 + 1 := by
  obtain ⟨hok, h⟩ := (next_mem nx l hl h0 s hn hs x).1 hx
  by_cases hxs : x ∈ s
  · exact ⟨x, hxs, by omega, by omega, by omega, by omega⟩
  · rw [decide_eq_false hxs] at h
    obtain ⟨d, hd, hds⟩ := ngh_ne l s x (fun e => by rw [e, h0] at h; cases h)
    have := bes_near l x d hl hok hd
    exact ⟨d, hds, by omega, by omega, by omega, by omega⟩
theorem srt_nodup {s : List CL} (h : Srt s) : s.Nodup := h.imp fun {a b} hab e => by subst e; exact ltC_irrefl _ hab
end Go.Proofs.YtaeenefdbahfoaaDoor
namespace Go.Proofs.YtaeenefdbahfoaaDoor
set_option linter.unusedSimpArgs false
set_option linter.unusedVariables false
open Go.RowKit Go.Proofs.YtaeenefdbahfoaaDoorW.PrintWords Go.Proofs.YtaeenefdbahfoaaDoorW.PrintLast Go.Proofs.YtaeenefdbahfoaaDoorW.PrintMore
open H
open Go.Shelf Go.RowKit Go.Lib Go.Sort
/-- an element's cells, and another cell's; nothing has turned that was there -/
abbrev SB (B : Nat) (w0 : World) (ad : Addr) (g : Nat) (x y : CL) (W : World) : Prop :=
  W.cell? ad = some (.int .i64 x.f0.f0) ∧ W.cell? ⟨ad.block, ad.off + 1, none⟩ = some (.int .i64 x.f0.f1) ∧ W.cell? ⟨ad.block, ad.off + 2, none⟩ = some (.int .i64 x.f1) ∧ W.cell? ⟨g, 0, none⟩ = some (.int .i64 y.f0.f0) ∧ W.cell? ⟨g, 1, none⟩ = some (.int .i64 y.f0.f1) ∧ W.cell? ⟨g, 2, none⟩ = some (.int .i64 y.f1) ∧ Below B w0 W ∧ B ≤ W.heap.size
theorem SB.below {B : Nat} {w0 : World} {ad : Addr} {g : Nat} {x y : CL} {W w1 : World} (h : SB B w0 ad g x y W) (hb : Below W.heap.size W w1) : SB B w0 ad g x y w1 := by
  obtain ⟨h0, h1, h2, h3, h4, h5, h6, h7⟩ := h
  exact ⟨pw_cell_below hb h0, pw_cell_below hb h1, pw_cell_below hb h2, pw_cell_below hb h3, pw_cell_below hb h4, pw_cell_below hb h5, h6.trans (hb.mono h7), Nat.le_trans h7 hb.size⟩
end Go.Proofs.YtaeenefdbahfoaaDoor
namespace Go.Proofs.YtaeenefdbahfoaaDoor
open Go.RowKit Go.Proofs.YtaeenefdbahfoaaDoorW.PrintWords Go.Proofs.YtaeenefdbahfoaaDoorW.PrintLast Go.Proofs.YtaeenefdbahfoaaDoorW.PrintMore
open H
open Go.RowKit
set_option linter.unusedSimpArgs false
abbrev S3c (g : Nat) (x : CL) (W : World) : Prop := W.cell? ⟨g, 0, none⟩ = some (.int .i64 x.f0.f0) ∧ W.cell? ⟨g, 1, none⟩ = some (.int .i64 x.f0.f1) ∧ W.cell? ⟨g, 2, none⟩ = some (.int .i64 x.f1)
abbrev CB (x : CL) : Obj := .cells #[.int .i64 x.f0.f0, .int .i64 x.f0.f1, .int .i64 x.f1] 65 (0, 0)
theorem S3c.of {W : World} {g : Nat} {x : CL} (h : W.heap[g]? = some (CB x)) : S3c g x W := ⟨blk_cell h 0, blk_cell h 1, blk_cell h 2⟩
end Go.Proofs.YtaeenefdbahfoaaDoor
namespace Go.Proofs.YtaeenefdbahfoaaDoor
set_option linter.unusedSimpArgs false
set_option linter.unusedVariables false
open Go.ChangeMaps Go.MapKept Go.WideShapes
open Go.Maps (Keyed)
section
variable {P : Program} {k e t : TypeId} {w : World} {b r : Nat} {l todo : List (Value × Value)}
/-- block r of w is an iterator over the map in block b (entries l), and these are still to come, in some order -/
def RangeAt (P : Program) (k : TypeId) (w : World) (b r : Nat) (l todo : List (Value × Value)) : Prop :=
  ∃ es clock since seen c0, w.heap[b]? = some (.map es clock) ∧ Stamped es clock ∧ (∀ x ∈ es.toList, ∃ kl, keyOf P k x.key = some kl) ∧ es.toList.map (fun e => (e.key, e.val)) = l ∧
    w.heap[r]? = some (.mapIter (some b) since seen c0) ∧ (∀ x ∈ es.toList, x.born < since) ∧ since ≤ c0 ∧ since ≤ clock ∧ ((leftOf es seen).toList.map (fun e => (e.key, e.val))).Perm todo
theorem RangeAt.map (h : RangeAt P k w b r l todo) : MapAt P k w b l := by
  obtain ⟨es, clock, _, _, _, h1, h2, h3, h4, _⟩ := h
  exact ⟨es, clock, h1, h2, h3, h4⟩
theorem RangeAt.of_heap {w' : World} (h : RangeAt P k w b r l todo) (hb : w'.heap[b]? = w.heap[b]?) (hr : w'.heap[r]? = w.heap[r]?) : RangeAt P k w' b r l todo := by
  obtain ⟨es, clock, since, seen, c0, h1, h2, h3, h4, h5, h6⟩ := h
  exact ⟨es, clock, since, seen, c0, hb.trans h1, h2, h3, h4, hr.trans h5, h6⟩
theorem MapAt.range (h : MapAt P k w b l) (ht : P.underlying t = some (.map k e)) :
    ∃ o : Obj, (Instr.range t (.map (some b))).run P w = .ok (.pointer (some ⟨w.heap.size, 0, none⟩)) (w.alloc o) ∧ RangeAt P k (w.alloc o) b w.heap.size l l := by
  have hlt := h.lt
  obtain ⟨es, clock, hb, hs, hk, hl⟩ := h
  refine ⟨.mapIter (some b) clock #[] clock, ?_, es, clock, clock, #[], clock, ?_, hs, hk, hl, (MapKept.heap_alloc w _).1, hs.1, Nat.le_refl _, Nat.le_refl _, ?_⟩
  · simp [Instr.range, run_underlying ht, MapKept.run_getObj_map hb, Result.andThen]
  · rw [(MapKept.heap_alloc w _).2 b (by omega)]
    exact hb
  · have : (leftOf es #[]).toList = es.toList := by simp [leftOf]
    rw [this, hl]
theorem RangeAt.next (h : RangeAt P k w b r l todo) (hne : r ≠ b) (ty : TypeId) :
    (todo = [] ∧ (Instr.next (.pointer (some ⟨r, 0, none⟩)) false ty).run P w = .ok (.tuple #[.bool false]) w) ∨
    ∃ p todo' w1, todo.Perm (p :: todo') ∧ p ∈ l ∧ (Instr.next (.pointer (some ⟨r, 0, none⟩)) false ty).run P w = .ok (.tuple #[.bool true, p.1, p.2]) w1 ∧ RangeAt P k w1 b r l todo' ∧
      (∀ W : World, W.heap[b]? = w1.heap[b]? → W.heap[r]? = w1.heap[r]? → (Instr.entry (.pointer (some ⟨r, 0, none⟩))).run P W = .ok (.tuple #[p.1, p.2]) W) ∧
      w1.os = w.os ∧ w1.tape = w.tape ∧ w1.output = w.output ∧ w1.heap.size = w.heap.size ∧ ∀ i, i ≠ r → w1.heap[i]? = w.heap[i]? := by
  obtain ⟨es, clock, since, seen, c0, hb, hs, hk, hl, hr, hold, hsc, hscl, hp⟩ := h
  rcases run_next_at (P := P) w ty r b since c0 seen es clock hr hb hold hsc with ⟨h0, hrun⟩ | ⟨x, hx, w1, hw1, hrun⟩
  · refine .inl ⟨?_, hrun⟩
    have : leftOf es seen = #[] := Array.eq_empty_of_size_eq_zero h0
    rw [this] at hp
    exact List.nil_perm.1 (by simpa using hp)
  · have hxe : x ∈ es.toList := by
      have hx' := hx
      simp [leftOf] at hx'
      simpa using hx'.1
    have hheap : w1.heap = w.heap := by rcases hw1 with rfl | rfl <;> rfl
    have hrest : ∃ rest, (leftOf es seen).toList.Perm (x :: rest) ∧ (leftOf es (seen.push x.born)).toList = rest := by
      refine ⟨(leftOf es (seen.push x.born)).toList, ?_, rfl⟩
      have hnd : (leftOf es seen).toList.Nodup := by
        have : es.toList.Nodup := List.Pairwise.of_map (·.born) (fun a b h e => h (congrArg _ e)) hs.2.1
        have e0 : (leftOf es seen).toList = es.toList.filter (fun e => !seen.contains e.born) := by simp [leftOf]
        rw [e0]
        exact List.Pairwise.filter _ this
      have heq : (leftOf es (seen.push x.born)).toList = (leftOf es seen).toList.filter (fun y => !(y.born == x.born)) := by
        simp only [leftOf, Array.toList_filter, List.filter_filter]
        refine List.filter_congr fun y _ => ?_
        by_cases h : y.born = x.born <;> simp [h]
      rw [heq]
      have hbn : ∀ y ∈ (leftOf es seen).toList, (y.born == x.born) = true → y = x := by
        intro y hy hyb
        have hye : y ∈ es.toList := by
          simp [leftOf] at hy
          simpa using hy.1
        obtain ⟨i, hi⟩ := List.mem_iff_getElem?.1 hye
        obtain ⟨j, hj⟩ := List.mem_iff_getElem?.1 hxe
        have := nodup_idx (x := x.born) hs.2.1 (by rw [List.getElem?_map, hi]; exact congrArg some (by simpa using hyb)) (by rw [List.getElem?_map, hj]; rfl)
        subst this
        rw [hi] at hj
        exact Option.some.inj hj
      have : ∀ L : List MapEntry, L.Nodup → x ∈ L → (∀ y ∈ L, (y.born == x.born) = true → y = x) → L.Perm (x :: L.filter (fun y => !(y.born == x.born))) := by
        intro L
        induction L with
        | nil => intro _ h; cases h
        | cons a L ih =>
          intro hnd hmem hall
          rw [List.nodup_cons] at hnd
          by_cases hax : a = x
          · subst hax
            have hfl : L.filter (fun y => !(y.born == a.born)) = L := List.filter_eq_self.2 fun y hy => by
              cases hyb : (y.born == a.born) with
              | false => rfl
              | true => exact absurd (hall y (List.mem_cons_of_mem _ hy) hyb ▸ hy) hnd.1
            simp [hfl]
          · have hmL : x ∈ L := by
              rcases List.mem_cons.1 hmem with h | h
              · exact absurd h.symm hax
              · exact h
            have hab : (a.born == x.born) = false := by
              cases h : (a.born == x.born) with
              | false => rfl
              | true => exact absurd (hall a List.mem_cons_self h) hax
            rw [List.filter_cons, hab]
            simp only [Bool.not_false, ↓reduceIte]
            exact ((ih hnd.2 hmL fun y hy => hall y (List.mem_cons_of_mem _ hy)).cons a).trans (List.Perm.swap _ _ _)
      exact this _ hnd hx hbn
    obtain ⟨rest, hperm, hrest⟩ := hrest
    have hb1 : (setBlock w1 r (.mapIter (some b) since (seen.push x.born) clock)).heap[b]? = some (.map es clock) := by
      unfold setBlock
      rw [Array.getElem?_setIfInBounds_ne hne, hheap]
      exact hb
    have hlt : r < w1.heap.size := by rw [hheap]; exact (Array.getElem?_eq_some_iff.1 hr).1
    have hr1 : (setBlock w1 r (.mapIter (some b) since (seen.push x.born) clock)).heap[r]? = some (.mapIter (some b) since (seen.push x.born) clock) := by
      unfold setBlock
      simp [hlt]
    refine .inr ⟨(x.key, x.val), rest.map (fun e => (e.key, e.val)), setBlock w1 r (.mapIter (some b) since (seen.push x.born) clock), ?_, ?_, hrun, ⟨es, clock, since, seen.push x.born, clock, hb1, hs, hk, hl, hr1, hold, hscl, hscl, ?_⟩, ?_, ?_, ?_, ?_, ?_, ?_⟩
    · exact hp.symm.trans (hperm.map _)
    · rw [← hl]
      exact List.mem_map.2 ⟨x, hxe, rfl⟩
    · rw [hrest]
    · intro W hWb hWr
      exact run_entry_at W r b since seen es clock x (hWr.trans hr1) (hWb.trans hb1) hxe hs.2.1
    · rcases hw1 with rfl | rfl <;> rfl
    · rcases hw1 with rfl | rfl <;> rfl
    · rcases hw1 with rfl | rfl <;> rfl
    · rcases hw1 with rfl | rfl <;> simp [setBlock]
    · intro i hi
      unfold setBlock
      rw [Array.getElem?_setIfInBounds_ne (fun h => hi h.symm), hheap]
end
end Go.Proofs.YtaeenefdbahfoaaDoor
