/- awake of chapter 7: two tables of triangles, by hand. -/
import Derived.Test.YtaeenefdbahfoaaDoorXTCheck
import Derived.Test.YtaeenefdbahfoaaDoorXOf
import Derived.Test.YtaeenefdbahfoaaDoorXBeside
import Derived.Test.YtaeenefdbahfoaaDoorHIso1
import Derived.BigRegion
import Derived.Deep.RegionHeld3
namespace Go.Proofs.YtaeenefdbahfoaaDoor
open Go.RowKit Go.Proofs.YtaeenefdbahfoaaDoorW.PrintWords Go.Proofs.YtaeenefdbahfoaaDoorW.PrintLast Go.Proofs.YtaeenefdbahfoaaDoorW.PrintMore
open H
open Go.RowKit
set_option linter.unusedSimpArgs false

/-- those beside the origin's triangle that points up -/
def tri0 : List S65 := (offs 2 0).map (sh 0 0)
theorem tri0_f : XBeside.f 2 0 0 0 = some (tri0, none) := by decide +kernel
theorem tri0_len : tri0.length = 3 := by decide +kernel
def FT (W : World) (g : Nat) : Prop := W.cell? ⟨g, 0, none⟩ = some (.bool false) ∧ W.cell? ⟨g, 1, none⟩ = some (.bool true)
abbrev TB (b1 : Int) : Obj := .cells #[.int .i64 2, .int .u64 2, .int .u64 b1, .int .u64 0, .int .u64 0] 29 (0, 0)
abbrev S5 (g : Nat) (b1 : Int) (W : World) : Prop := W.cell? ⟨g, 0, none⟩ = some (.int .i64 2) ∧ W.cell? ⟨g, 1, none⟩ = some (.int .u64 2) ∧ W.cell? ⟨g, 2, none⟩ = some (.int .u64 b1) ∧ W.cell? ⟨g, 3, none⟩ = some (.int .u64 0) ∧ W.cell? ⟨g, 4, none⟩ = some (.int .u64 0)
theorem S5.below {g : Nat} {b1 : Int} {W W1 : World} (h : S5 g b1 W) (hb : Below W.heap.size W W1) : S5 g b1 W1 := ⟨pw_cell_below hb h.1, pw_cell_below hb h.2.1, pw_cell_below hb h.2.2.1, pw_cell_below hb h.2.2.2.1, pw_cell_below hb h.2.2.2.2⟩
theorem S5.of {g : Nat} {b1 : Int} {W : World} (h : W.heap[g]? = some (TB b1)) : S5 g b1 W := ⟨blk_cell h 0, blk_cell h 1, blk_cell h 2, blk_cell h 3, blk_cell h 4⟩
abbrev S6 (g : Nat) (b1 : Int) (B0 W : World) : Prop := W.cell? ⟨g, 0, none⟩ = some (.int .i64 2) ∧ W.cell? ⟨g, 1, none⟩ = some (.int .u64 2) ∧ W.cell? ⟨g, 2, none⟩ = some (.int .u64 b1) ∧ W.cell? ⟨g, 3, none⟩ = some (.int .u64 0) ∧ W.cell? ⟨g, 4, none⟩ = some (.int .u64 0) ∧ Below B0.heap.size B0 W
theorem S6.next {g : Nat} {b1 : Int} {B0 W W1 : World} (h : S6 g b1 B0 W) (hb : Below W.heap.size W W1) : S6 g b1 B0 W1 := ⟨pw_cell_below hb h.1, pw_cell_below hb h.2.1, pw_cell_below hb h.2.2.1, pw_cell_below hb h.2.2.2.1, pw_cell_below hb h.2.2.2.2.1, h.2.2.2.2.2.trans (hb.mono h.2.2.2.2.2.size)⟩
abbrev WB : Obj := .cells #[.slice none 0 0, .int .i64 0] 37 (0, 0)
abbrev FB : Obj := .cells #[.bool false, .bool true] 4 (0, 0)
set_option maxRecDepth 100000 in
set_option maxHeartbeats 8000000 in
theorem tri_same (w : World) (hG : Six w) : Calls Tryd.prog 55 #[.agg #[.int .i64 2, .int .u64 2, .int .u64 2, .int .u64 0, .int .u64 0]] w fun e w' => (∃ (A : Option Addr) (n c : Nat) (o : Int), e = .returned (.tuple #[.agg #[.slice A n c, .int .i64 o], .bool false])) ∧ Below w.heap.size w w' := by
  have hbs := fun W hW => XBeside.calls 2 0 0 0 tri0 none W hW tri0_f
  simp only [errW_none] at hbs
  have HBS := Aside0.mk hbs
  have HG := Aside0.mk hG
  clear hbs hG
  go_enter Tryd.func55, Tryd.ntmps55
  go_wp2_with fail
  obtain ⟨w2, hw2⟩ : ∃ W, W = (w.alloc (.cells #[.int .i64 2, .int .u64 2, .int .u64 2, .int .u64 0, .int .u64 0] 29)).alloc (.cells #[.slice none 0 0, .int .i64 0] 37) := ⟨_, rfl⟩
  have kT : w2.heap[w.heap.size]? = some (TB 2) := by rw [hw2]; exact blk_alloc (blk_new _ _) _
  have kW : w2.heap[w.heap.size + 1]? = some WB := by
    have := blk_new (w.alloc (.cells #[.int .i64 2, .int .u64 2, .int .u64 2, .int .u64 0, .int .u64 0] 29)) WB
    rw [World.size_alloc] at this
    rw [hw2]; exact this
  have hB2 : Below w.heap.size w w2 := by rw [hw2]; exact below_alloc (below_alloc (Below.refl _ _) _) _
  rw [← hw2]
  have HB2 := Aside0.mk hB2
  clear hw2 hB2
  refine (HBS.out w2 (HG.out.below HB2.out)).mono ?_
  rintro e w3 ⟨v, rfl, hR, hb3⟩
  obtain ⟨A, c, rfl, hlc, hC⟩ := Kd.R_reads hR
  rw [tri0_len]
  rw [tri0_len] at hlc
  have kT := blk_below kT hb3
  have kW := blk_below kW hb3
  have HB3 := Aside0.mk (HB2.out.trans (hb3.mono HB2.out.size))
  have HC := Aside0.mk hC
  have HLC := Aside0.mk hlc
  have hw4 : IntKind.i64.wrap (3 + 1) = 4 := by decide
  clear hR hC hlc hb3 HBS
  go_wp2_with fail
  go_loopw [20] (fun iv wr => ∃ n : Nat, n ≤ 4 ∧ iv = .int .i64 n ∧ wr.heap[w.heap.size]? = some (TB 2) ∧ wr.heap[w.heap.size + 1]? = some WB ∧ Below w3.heap.size w3 wr) (fun iv _ => 4 - (intOf iv).toNat)
  case atStart => exact ⟨0, by omega, rfl, kT, kW, Below.refl _ _⟩
  case round =>
    clear kT kW
    obtain ⟨n, hn, rfl, kT, kW, hB⟩ := hrel
    have KT := Aside0.mk kT
    have KW := Aside0.mk kW
    have HB := Aside0.mk hB
    have hz3 := hB.size
    have lT := blk_lt kT
    have lW := blk_lt kW
    clear kT kW hB
    have hnn : n = 0 ∨ n = 1 ∨ n = 2 ∨ n = 3 ∨ n = 4 := by omega
    rcases hnn with rfl | rfl | rfl | rfl | rfl
    · go_upto_region 6 with (fail)
      obtain ⟨w5, hw5⟩ : ∃ W, W = wr.alloc (.cells #[.bool false, .bool true] 4) := ⟨_, rfl⟩
      have kB : w5.heap[wr.heap.size]? = some FB := by rw [hw5]; exact blk_new _ _
      have hB5 : Below wr.heap.size wr w5 := by rw [hw5]; exact below_alloc (Below.refl _ _) _
      rw [← hw5]
      obtain ⟨gB, hgB⟩ : ∃ g, g = wr.heap.size := ⟨_, rfl⟩
      rw [← hgB] at kB ⊢
      have kT := blk_below KT.out hB5
      have kW := blk_below KW.out hB5
      have HB5 := Aside0.mk (HB.out.trans (hB5.mono hz3))
      clear hw5 hB5 hgB KT KW HB
      try rw [show ((0 : Nat) : Int) = 0 from rfl]
      go_loopw [25] (fun iv wr => ∃ j : Nat, j ≤ 2 ∧ iv = .int .i64 j ∧ wr.heap[w.heap.size]? = some (TB 2) ∧ wr.heap[w.heap.size + 1]? = some WB ∧ wr.heap[gB]? = some FB ∧ Below w3.heap.size w3 wr) (fun iv _ => 2 - (intOf iv).toNat)
      case atStart => exact ⟨0, by omega, rfl, kT, kW, kB, HB5.out⟩
      case round =>
        clear kT kW kB HB5
        obtain ⟨j, hj, rfl, kT, kW, kB, hB⟩ := hrel
        have KT := Aside0.mk kT
        have KW := Aside0.mk kW
        have KB := Aside0.mk kB
        have HB := Aside0.mk hB
        have hz3 := hB.size
        have b0 := blk_cell kB 0
        have b1 := blk_cell kB 1
        simp only [List.getElem?_toArray, List.getElem?_cons_zero, List.getElem?_cons_succ] at b0 b1
        have lT := blk_lt kT
        have lW := blk_lt kW
        have lB := blk_lt kB
        have hS : S6 w.heap.size 2 wr.drew wr.drew := ⟨blk_cell kT 0, blk_cell kT 1, blk_cell kT 2, blk_cell kT 3, blk_cell kT 4, Below.refl _ _⟩
        clear kT kW kB hB
        have hjj : j = 0 ∨ j = 1 ∨ j = 2 := by omega
        rcases hjj with rfl | rfl | rfl
        · obtain ⟨r0, r1, f0, f1, hr⟩ : ∃ r0 r1, XNext.f 2 2 2 0 0 0 false 0 = some r0 ∧ XNext.f 2 2 2 0 0 1 false 0 = some r1 ∧ (r0 == r1) = true := ⟨_, _, rfl, rfl, by decide +kernel⟩
          have c0 := fun W => XNext.calls 2 2 2 0 0 0 false 0 r0 W f0
          have c1 := fun W => XNext.calls 2 2 2 0 0 1 false 0 r1 W f1
          clear f0 f1
          go_upto_region 8 with (fail)
          go_region_held3 (fun W => W.cell? ⟨w.heap.size, 0, none⟩ = some (.int .i64 2) ∧ W.cell? ⟨w.heap.size, 1, none⟩ = some (.int .u64 2) ∧ W.cell? ⟨w.heap.size, 2, none⟩ = some (.int .u64 2) ∧ W.cell? ⟨w.heap.size, 3, none⟩ = some (.int .u64 0) ∧ W.cell? ⟨w.heap.size, 4, none⟩ = some (.int .u64 0) ∧ Below wr.drew.heap.size wr.drew W)
            (assumption)
            (first | (go_at_call 58; (first | (with_reducible refine (c0 _).mono ?_) | (with_reducible refine (c1 _).mono ?_)); rintro e wN ⟨rfl, hbN⟩; have hSN := S6.next (by assumption : S6 w.heap.size 2 wr.drew _) hbN; clear hbN))
          all_goals (
            have hF := hSN.2.2.2.2.2
            have hBw := (below_drew HB.out).trans (hF.mono (by show w3.heap.size ≤ wr.heap.size; omega))
            have FF := Aside0.mk (And.intro (blk_below (w := wr.drew) KT.out hF) (And.intro (blk_below (w := wr.drew) KW.out hF) (And.intro (blk_below (w := wr.drew) KB.out hF) hBw)))
            clear hF hSN hBw hS
            go_wp2
            go_roundw
            case rel => exact ⟨1, by omega, by first | rfl | go_num, FF.out.1, FF.out.2.1, FF.out.2.2.1, FF.out.2.2.2⟩
            case measure => simp [intOf])
        · obtain ⟨r0, r1, f0, f1, hr⟩ : ∃ r0 r1, XNext.f 2 2 2 0 0 0 true 0 = some r0 ∧ XNext.f 2 2 2 0 0 1 true 0 = some r1 ∧ (r0 == r1) = true := ⟨_, _, rfl, rfl, by decide +kernel⟩
          have c0 := fun W => XNext.calls 2 2 2 0 0 0 true 0 r0 W f0
          have c1 := fun W => XNext.calls 2 2 2 0 0 1 true 0 r1 W f1
          clear f0 f1
          go_upto_region 8 with (fail)
          go_region_held3 (fun W => W.cell? ⟨w.heap.size, 0, none⟩ = some (.int .i64 2) ∧ W.cell? ⟨w.heap.size, 1, none⟩ = some (.int .u64 2) ∧ W.cell? ⟨w.heap.size, 2, none⟩ = some (.int .u64 2) ∧ W.cell? ⟨w.heap.size, 3, none⟩ = some (.int .u64 0) ∧ W.cell? ⟨w.heap.size, 4, none⟩ = some (.int .u64 0) ∧ Below wr.drew.heap.size wr.drew W)
            (assumption)
            (first | (go_at_call 58; (first | (with_reducible refine (c0 _).mono ?_) | (with_reducible refine (c1 _).mono ?_)); rintro e wN ⟨rfl, hbN⟩; have hSN := S6.next (by assumption : S6 w.heap.size 2 wr.drew _) hbN; clear hbN))
          all_goals (
            have hF := hSN.2.2.2.2.2
            have hBw := (below_drew HB.out).trans (hF.mono (by show w3.heap.size ≤ wr.heap.size; omega))
            have FF := Aside0.mk (And.intro (blk_below (w := wr.drew) KT.out hF) (And.intro (blk_below (w := wr.drew) KW.out hF) (And.intro (blk_below (w := wr.drew) KB.out hF) hBw)))
            clear hF hSN hBw hS
            go_wp2
            go_roundw
            case rel => exact ⟨2, by omega, by first | rfl | go_num, FF.out.1, FF.out.2.1, FF.out.2.2.1, FF.out.2.2.2⟩
            case measure => simp [intOf])
        · go_wp2
          go_roundw
          case rel => exact ⟨0 + 1, by omega, by first | rfl | go_num, KT.out, KW.out, HB.out⟩
          case measure => first | (simp [intOf]; done) | (simp [intOf]; omega)
    · go_upto_region 6 with (fail)
      obtain ⟨w5, hw5⟩ : ∃ W, W = wr.alloc (.cells #[.bool false, .bool true] 4) := ⟨_, rfl⟩
      have kB : w5.heap[wr.heap.size]? = some FB := by rw [hw5]; exact blk_new _ _
      have hB5 : Below wr.heap.size wr w5 := by rw [hw5]; exact below_alloc (Below.refl _ _) _
      rw [← hw5]
      obtain ⟨gB, hgB⟩ : ∃ g, g = wr.heap.size := ⟨_, rfl⟩
      rw [← hgB] at kB ⊢
      have kT := blk_below KT.out hB5
      have kW := blk_below KW.out hB5
      have HB5 := Aside0.mk (HB.out.trans (hB5.mono hz3))
      clear hw5 hB5 hgB KT KW HB
      try rw [show ((1 : Nat) : Int) = 1 from rfl]
      go_loopw [25] (fun iv wr => ∃ j : Nat, j ≤ 2 ∧ iv = .int .i64 j ∧ wr.heap[w.heap.size]? = some (TB 2) ∧ wr.heap[w.heap.size + 1]? = some WB ∧ wr.heap[gB]? = some FB ∧ Below w3.heap.size w3 wr) (fun iv _ => 2 - (intOf iv).toNat)
      case atStart => exact ⟨0, by omega, rfl, kT, kW, kB, HB5.out⟩
      case round =>
        clear kT kW kB HB5
        obtain ⟨j, hj, rfl, kT, kW, kB, hB⟩ := hrel
        have KT := Aside0.mk kT
        have KW := Aside0.mk kW
        have KB := Aside0.mk kB
        have HB := Aside0.mk hB
        have hz3 := hB.size
        have b0 := blk_cell kB 0
        have b1 := blk_cell kB 1
        simp only [List.getElem?_toArray, List.getElem?_cons_zero, List.getElem?_cons_succ] at b0 b1
        have lT := blk_lt kT
        have lW := blk_lt kW
        have lB := blk_lt kB
        have hS : S6 w.heap.size 2 wr.drew wr.drew := ⟨blk_cell kT 0, blk_cell kT 1, blk_cell kT 2, blk_cell kT 3, blk_cell kT 4, Below.refl _ _⟩
        clear kT kW kB hB
        have hjj : j = 0 ∨ j = 1 ∨ j = 2 := by omega
        rcases hjj with rfl | rfl | rfl
        · obtain ⟨r0, r1, f0, f1, hr⟩ : ∃ r0 r1, XNext.f 2 2 2 0 0 0 false 1 = some r0 ∧ XNext.f 2 2 2 0 0 1 false 1 = some r1 ∧ (r0 == r1) = true := ⟨_, _, rfl, rfl, by decide +kernel⟩
          have c0 := fun W => XNext.calls 2 2 2 0 0 0 false 1 r0 W f0
          have c1 := fun W => XNext.calls 2 2 2 0 0 1 false 1 r1 W f1
          clear f0 f1
          go_upto_region 8 with (fail)
          go_region_held3 (fun W => W.cell? ⟨w.heap.size, 0, none⟩ = some (.int .i64 2) ∧ W.cell? ⟨w.heap.size, 1, none⟩ = some (.int .u64 2) ∧ W.cell? ⟨w.heap.size, 2, none⟩ = some (.int .u64 2) ∧ W.cell? ⟨w.heap.size, 3, none⟩ = some (.int .u64 0) ∧ W.cell? ⟨w.heap.size, 4, none⟩ = some (.int .u64 0) ∧ Below wr.drew.heap.size wr.drew W)
            (assumption)
            (first | (go_at_call 58; (first | (with_reducible refine (c0 _).mono ?_) | (with_reducible refine (c1 _).mono ?_)); rintro e wN ⟨rfl, hbN⟩; have hSN := S6.next (by assumption : S6 w.heap.size 2 wr.drew _) hbN; clear hbN))
          all_goals (
            have hF := hSN.2.2.2.2.2
            have hBw := (below_drew HB.out).trans (hF.mono (by show w3.heap.size ≤ wr.heap.size; omega))
            have FF := Aside0.mk (And.intro (blk_below (w := wr.drew) KT.out hF) (And.intro (blk_below (w := wr.drew) KW.out hF) (And.intro (blk_below (w := wr.drew) KB.out hF) hBw)))
            clear hF hSN hBw hS
            go_wp2
            go_roundw
            case rel => exact ⟨1, by omega, by first | rfl | go_num, FF.out.1, FF.out.2.1, FF.out.2.2.1, FF.out.2.2.2⟩
            case measure => simp [intOf])
        · obtain ⟨r0, r1, f0, f1, hr⟩ : ∃ r0 r1, XNext.f 2 2 2 0 0 0 true 1 = some r0 ∧ XNext.f 2 2 2 0 0 1 true 1 = some r1 ∧ (r0 == r1) = true := ⟨_, _, rfl, rfl, by decide +kernel⟩
          have c0 := fun W => XNext.calls 2 2 2 0 0 0 true 1 r0 W f0
          have c1 := fun W => XNext.calls 2 2 2 0 0 1 true 1 r1 W f1
          clear f0 f1
          go_upto_region 8 with (fail)
          go_region_held3 (fun W => W.cell? ⟨w.heap.size, 0, none⟩ = some (.int .i64 2) ∧ W.cell? ⟨w.heap.size, 1, none⟩ = some (.int .u64 2) ∧ W.cell? ⟨w.heap.size, 2, none⟩ = some (.int .u64 2) ∧ W.cell? ⟨w.heap.size, 3, none⟩ = some (.int .u64 0) ∧ W.cell? ⟨w.heap.size, 4, none⟩ = some (.int .u64 0) ∧ Below wr.drew.heap.size wr.drew W)
            (assumption)
            (first | (go_at_call 58; (first | (with_reducible refine (c0 _).mono ?_) | (with_reducible refine (c1 _).mono ?_)); rintro e wN ⟨rfl, hbN⟩; have hSN := S6.next (by assumption : S6 w.heap.size 2 wr.drew _) hbN; clear hbN))
          all_goals (
            have hF := hSN.2.2.2.2.2
            have hBw := (below_drew HB.out).trans (hF.mono (by show w3.heap.size ≤ wr.heap.size; omega))
            have FF := Aside0.mk (And.intro (blk_below (w := wr.drew) KT.out hF) (And.intro (blk_below (w := wr.drew) KW.out hF) (And.intro (blk_below (w := wr.drew) KB.out hF) hBw)))
            clear hF hSN hBw hS
            go_wp2
            go_roundw
            case rel => exact ⟨2, by omega, by first | rfl | go_num, FF.out.1, FF.out.2.1, FF.out.2.2.1, FF.out.2.2.2⟩
            case measure => simp [intOf])
        · go_wp2
          go_roundw
          case rel => exact ⟨1 + 1, by omega, by first | rfl | go_num, KT.out, KW.out, HB.out⟩
          case measure => first | (simp [intOf]; done) | (simp [intOf]; omega)
    · go_upto_region 6 with (fail)
      obtain ⟨w5, hw5⟩ : ∃ W, W = wr.alloc (.cells #[.bool false, .bool true] 4) := ⟨_, rfl⟩
      have kB : w5.heap[wr.heap.size]? = some FB := by rw [hw5]; exact blk_new _ _
      have hB5 : Below wr.heap.size wr w5 := by rw [hw5]; exact below_alloc (Below.refl _ _) _
      rw [← hw5]
      obtain ⟨gB, hgB⟩ : ∃ g, g = wr.heap.size := ⟨_, rfl⟩
      rw [← hgB] at kB ⊢
      have kT := blk_below KT.out hB5
      have kW := blk_below KW.out hB5
      have HB5 := Aside0.mk (HB.out.trans (hB5.mono hz3))
      clear hw5 hB5 hgB KT KW HB
      try rw [show ((2 : Nat) : Int) = 2 from rfl]
      go_loopw [25] (fun iv wr => ∃ j : Nat, j ≤ 2 ∧ iv = .int .i64 j ∧ wr.heap[w.heap.size]? = some (TB 2) ∧ wr.heap[w.heap.size + 1]? = some WB ∧ wr.heap[gB]? = some FB ∧ Below w3.heap.size w3 wr) (fun iv _ => 2 - (intOf iv).toNat)
      case atStart => exact ⟨0, by omega, rfl, kT, kW, kB, HB5.out⟩
      case round =>
        clear kT kW kB HB5
        obtain ⟨j, hj, rfl, kT, kW, kB, hB⟩ := hrel
        have KT := Aside0.mk kT
        have KW := Aside0.mk kW
        have KB := Aside0.mk kB
        have HB := Aside0.mk hB
        have hz3 := hB.size
        have b0 := blk_cell kB 0
        have b1 := blk_cell kB 1
        simp only [List.getElem?_toArray, List.getElem?_cons_zero, List.getElem?_cons_succ] at b0 b1
        have lT := blk_lt kT
        have lW := blk_lt kW
        have lB := blk_lt kB
        have hS : S6 w.heap.size 2 wr.drew wr.drew := ⟨blk_cell kT 0, blk_cell kT 1, blk_cell kT 2, blk_cell kT 3, blk_cell kT 4, Below.refl _ _⟩
        clear kT kW kB hB
        have hjj : j = 0 ∨ j = 1 ∨ j = 2 := by omega
        rcases hjj with rfl | rfl | rfl
        · obtain ⟨r0, r1, f0, f1, hr⟩ : ∃ r0 r1, XNext.f 2 2 2 0 0 0 false 2 = some r0 ∧ XNext.f 2 2 2 0 0 1 false 2 = some r1 ∧ (r0 == r1) = true := ⟨_, _, rfl, rfl, by decide +kernel⟩
          have c0 := fun W => XNext.calls 2 2 2 0 0 0 false 2 r0 W f0
          have c1 := fun W => XNext.calls 2 2 2 0 0 1 false 2 r1 W f1
          clear f0 f1
          go_upto_region 8 with (fail)
          go_region_held3 (fun W => W.cell? ⟨w.heap.size, 0, none⟩ = some (.int .i64 2) ∧ W.cell? ⟨w.heap.size, 1, none⟩ = some (.int .u64 2) ∧ W.cell? ⟨w.heap.size, 2, none⟩ = some (.int .u64 2) ∧ W.cell? ⟨w.heap.size, 3, none⟩ = some (.int .u64 0) ∧ W.cell? ⟨w.heap.size, 4, none⟩ = some (.int .u64 0) ∧ Below wr.drew.heap.size wr.drew W)
            (assumption)
            (first | (go_at_call 58; (first | (with_reducible refine (c0 _).mono ?_) | (with_reducible refine (c1 _).mono ?_)); rintro e wN ⟨rfl, hbN⟩; have hSN := S6.next (by assumption : S6 w.heap.size 2 wr.drew _) hbN; clear hbN))
          all_goals (
            have hF := hSN.2.2.2.2.2
            have hBw := (below_drew HB.out).trans (hF.mono (by show w3.heap.size ≤ wr.heap.size; omega))
            have FF := Aside0.mk (And.intro (blk_below (w := wr.drew) KT.out hF) (And.intro (blk_below (w := wr.drew) KW.out hF) (And.intro (blk_below (w := wr.drew) KB.out hF) hBw)))
            clear hF hSN hBw hS
            go_wp2
            go_roundw
            case rel => exact ⟨1, by omega, by first | rfl | go_num, FF.out.1, FF.out.2.1, FF.out.2.2.1, FF.out.2.2.2⟩
            case measure => simp [intOf])
        · obtain ⟨r0, r1, f0, f1, hr⟩ : ∃ r0 r1, XNext.f 2 2 2 0 0 0 true 2 = some r0 ∧ XNext.f 2 2 2 0 0 1 true 2 = some r1 ∧ (r0 == r1) = true := ⟨_, _, rfl, rfl, by decide +kernel⟩
          have c0 := fun W => XNext.calls 2 2 2 0 0 0 true 2 r0 W f0
          have c1 := fun W => XNext.calls 2 2 2 0 0 1 true 2 r1 W f1
          clear f0 f1
          go_upto_region 8 with (fail)
          go_region_held3 (fun W => W.cell? ⟨w.heap.size, 0, none⟩ = some (.int .i64 2) ∧ W.cell? ⟨w.heap.size, 1, none⟩ = some (.int .u64 2) ∧ W.cell? ⟨w.heap.size, 2, none⟩ = some (.int .u64 2) ∧ W.cell? ⟨w.heap.size, 3, none⟩ = some (.int .u64 0) ∧ W.cell? ⟨w.heap.size, 4, none⟩ = some (.int .u64 0) ∧ Below wr.drew.heap.size wr.drew W)
            (assumption)
            (first | (go_at_call 58; (first | (with_reducible refine (c0 _).mono ?_) | (with_reducible refine (c1 _).mono ?_)); rintro e wN ⟨rfl, hbN⟩; have hSN := S6.next (by assumption : S6 w.heap.size 2 wr.drew _) hbN; clear hbN))
          all_goals (
            have hF := hSN.2.2.2.2.2
            have hBw := (below_drew HB.out).trans (hF.mono (by show w3.heap.size ≤ wr.heap.size; omega))
            have FF := Aside0.mk (And.intro (blk_below (w := wr.drew) KT.out hF) (And.intro (blk_below (w := wr.drew) KW.out hF) (And.intro (blk_below (w := wr.drew) KB.out hF) hBw)))
            clear hF hSN hBw hS
            go_wp2
            go_roundw
            case rel => exact ⟨2, by omega, by first | rfl | go_num, FF.out.1, FF.out.2.1, FF.out.2.2.1, FF.out.2.2.2⟩
            case measure => simp [intOf])
        · go_wp2
          go_roundw
          case rel => exact ⟨2 + 1, by omega, by first | rfl | go_num, KT.out, KW.out, HB.out⟩
          case measure => first | (simp [intOf]; done) | (simp [intOf]; omega)
    · go_upto_region 6 with (fail)
      obtain ⟨w5, hw5⟩ : ∃ W, W = wr.alloc (.cells #[.bool false, .bool true] 4) := ⟨_, rfl⟩
      have kB : w5.heap[wr.heap.size]? = some FB := by rw [hw5]; exact blk_new _ _
      have hB5 : Below wr.heap.size wr w5 := by rw [hw5]; exact below_alloc (Below.refl _ _) _
      rw [← hw5]
      obtain ⟨gB, hgB⟩ : ∃ g, g = wr.heap.size := ⟨_, rfl⟩
      rw [← hgB] at kB ⊢
      have kT := blk_below KT.out hB5
      have kW := blk_below KW.out hB5
      have HB5 := Aside0.mk (HB.out.trans (hB5.mono hz3))
      clear hw5 hB5 hgB KT KW HB
      try rw [show ((3 : Nat) : Int) = 3 from rfl]
      go_loopw [25] (fun iv wr => ∃ j : Nat, j ≤ 2 ∧ iv = .int .i64 j ∧ wr.heap[w.heap.size]? = some (TB 2) ∧ wr.heap[w.heap.size + 1]? = some WB ∧ wr.heap[gB]? = some FB ∧ Below w3.heap.size w3 wr) (fun iv _ => 2 - (intOf iv).toNat)
      case atStart => exact ⟨0, by omega, rfl, kT, kW, kB, HB5.out⟩
      case round =>
        clear kT kW kB HB5
        obtain ⟨j, hj, rfl, kT, kW, kB, hB⟩ := hrel
        have KT := Aside0.mk kT
        have KW := Aside0.mk kW
        have KB := Aside0.mk kB
        have HB := Aside0.mk hB
        have hz3 := hB.size
        have b0 := blk_cell kB 0
        have b1 := blk_cell kB 1
        simp only [List.getElem?_toArray, List.getElem?_cons_zero, List.getElem?_cons_succ] at b0 b1
        have lT := blk_lt kT
        have lW := blk_lt kW
        have lB := blk_lt kB
        have hS : S6 w.heap.size 2 wr.drew wr.drew := ⟨blk_cell kT 0, blk_cell kT 1, blk_cell kT 2, blk_cell kT 3, blk_cell kT 4, Below.refl _ _⟩
        clear kT kW kB hB
        have hjj : j = 0 ∨ j = 1 ∨ j = 2 := by omega
        rcases hjj with rfl | rfl | rfl
        · obtain ⟨r0, r1, f0, f1, hr⟩ : ∃ r0 r1, XNext.f 2 2 2 0 0 0 false 3 = some r0 ∧ XNext.f 2 2 2 0 0 1 false 3 = some r1 ∧ (r0 == r1) = true := ⟨_, _, rfl, rfl, by decide +kernel⟩
          have c0 := fun W => XNext.calls 2 2 2 0 0 0 false 3 r0 W f0
          have c1 := fun W => XNext.calls 2 2 2 0 0 1 false 3 r1 W f1
          clear f0 f1
          go_upto_region 8 with (fail)
          go_region_held3 (fun W => W.cell? ⟨w.heap.size, 0, none⟩ = some (.int .i64 2) ∧ W.cell? ⟨w.heap.size, 1, none⟩ = some (.int .u64 2) ∧ W.cell? ⟨w.heap.size, 2, none⟩ = some (.int .u64 2) ∧ W.cell? ⟨w.heap.size, 3, none⟩ = some (.int .u64 0) ∧ W.cell? ⟨w.heap.size, 4, none⟩ = some (.int .u64 0) ∧ Below wr.drew.heap.size wr.drew W)
            (assumption)
            (first | (go_at_call 58; (first | (with_reducible refine (c0 _).mono ?_) | (with_reducible refine (c1 _).mono ?_)); rintro e wN ⟨rfl, hbN⟩; have hSN := S6.next (by assumption : S6 w.heap.size 2 wr.drew _) hbN; clear hbN))
          all_goals (
            have hF := hSN.2.2.2.2.2
            have hBw := (below_drew HB.out).trans (hF.mono (by show w3.heap.size ≤ wr.heap.size; omega))
            have FF := Aside0.mk (And.intro (blk_below (w := wr.drew) KT.out hF) (And.intro (blk_below (w := wr.drew) KW.out hF) (And.intro (blk_below (w := wr.drew) KB.out hF) hBw)))
            clear hF hSN hBw hS
            go_wp2
            go_roundw
            case rel => exact ⟨1, by omega, by first | rfl | go_num, FF.out.1, FF.out.2.1, FF.out.2.2.1, FF.out.2.2.2⟩
            case measure => simp [intOf])
        · obtain ⟨r0, r1, f0, f1, hr⟩ : ∃ r0 r1, XNext.f 2 2 2 0 0 0 true 3 = some r0 ∧ XNext.f 2 2 2 0 0 1 true 3 = some r1 ∧ (r0 == r1) = true := ⟨_, _, rfl, rfl, by decide +kernel⟩
          have c0 := fun W => XNext.calls 2 2 2 0 0 0 true 3 r0 W f0
          have c1 := fun W => XNext.calls 2 2 2 0 0 1 true 3 r1 W f1
          clear f0 f1
          go_upto_region 8 with (fail)
          go_region_held3 (fun W => W.cell? ⟨w.heap.size, 0, none⟩ = some (.int .i64 2) ∧ W.cell? ⟨w.heap.size, 1, none⟩ = some (.int .u64 2) ∧ W.cell? ⟨w.heap.size, 2, none⟩ = some (.int .u64 2) ∧ W.cell? ⟨w.heap.size, 3, none⟩ = some (.int .u64 0) ∧ W.cell? ⟨w.heap.size, 4, none⟩ = some (.int .u64 0) ∧ Below wr.drew.heap.size wr.drew W)
            (assumption)
            (first | (go_at_call 58; (first | (with_reducible refine (c0 _).mono ?_) | (with_reducible refine (c1 _).mono ?_)); rintro e wN ⟨rfl, hbN⟩; have hSN := S6.next (by assumption : S6 w.heap.size 2 wr.drew _) hbN; clear hbN))
          all_goals (
            have hF := hSN.2.2.2.2.2
            have hBw := (below_drew HB.out).trans (hF.mono (by show w3.heap.size ≤ wr.heap.size; omega))
            have FF := Aside0.mk (And.intro (blk_below (w := wr.drew) KT.out hF) (And.intro (blk_below (w := wr.drew) KW.out hF) (And.intro (blk_below (w := wr.drew) KB.out hF) hBw)))
            clear hF hSN hBw hS
            go_wp2
            go_roundw
            case rel => exact ⟨2, by omega, by first | rfl | go_num, FF.out.1, FF.out.2.1, FF.out.2.2.1, FF.out.2.2.2⟩
            case measure => simp [intOf])
        · go_wp2
          go_roundw
          case rel => exact ⟨3 + 1, by omega, by first | rfl | go_num, KT.out, KW.out, HB.out⟩
          case measure => first | (simp [intOf]; done) | (simp [intOf]; omega)
    · have g0 := blk_cell KW.out 0
      have g1 := blk_cell KW.out 1
      have gf := blk_frozen KW.out
      simp only [List.getElem?_toArray, List.getElem?_cons_zero, List.getElem?_cons_succ] at g0 g1
      go_wp2
      have hr := blk_set (blk_set KW.out 0 (.slice none 0 0)) 1 (.int .i64 0)
      exact bodyPost_ret (results_ct rfl _ _ (w.heap.size + 1) 37 #[.slice none 0 0, .int .i64 0] (0, 0) _ rfl hr Tryd.underlying37 rfl (by kernel_rfl)) rfl ⟨⟨_, _, _, _, rfl⟩, Below.setCell (p := ⟨w.heap.size + 1, 1, none⟩) (Below.setCell (p := ⟨w.heap.size + 1, 0, none⟩) (HB3.out.trans (HB.out.mono HB3.out.size)) (by show w.heap.size ≤ w.heap.size + 1; omega) _) (by show w.heap.size ≤ w.heap.size + 1; omega) _⟩
set_option maxRecDepth 100000 in
set_option maxHeartbeats 8000000 in
theorem tri_first (w : World) (hG : Six w) : Calls Tryd.prog 55 #[.agg #[.int .i64 2, .int .u64 2, .int .u64 4, .int .u64 0, .int .u64 0]] w fun e w' => (∃ (A : Option Addr) (n c : Nat) (o : Int), e = .returned (.tuple #[.agg #[.slice A n c, .int .i64 o], .bool true])) ∧ Below w.heap.size w w' := by
  have hbs := fun W hW => XBeside.calls 2 0 0 0 tri0 none W hW tri0_f
  simp only [errW_none] at hbs
  have HBS := Aside0.mk hbs
  have HG := Aside0.mk hG
  clear hbs hG
  go_enter Tryd.func55, Tryd.ntmps55
  go_wp2_with fail
  obtain ⟨w2, hw2⟩ : ∃ W, W = (w.alloc (.cells #[.int .i64 2, .int .u64 2, .int .u64 4, .int .u64 0, .int .u64 0] 29)).alloc (.cells #[.slice none 0 0, .int .i64 0] 37) := ⟨_, rfl⟩
  have kT : w2.heap[w.heap.size]? = some (TB 4) := by rw [hw2]; exact blk_alloc (blk_new _ _) _
  have kW : w2.heap[w.heap.size + 1]? = some WB := by
    have := blk_new (w.alloc (.cells #[.int .i64 2, .int .u64 2, .int .u64 4, .int .u64 0, .int .u64 0] 29)) WB
    rw [World.size_alloc] at this
    rw [hw2]; exact this
  have hB2 : Below w.heap.size w w2 := by rw [hw2]; exact below_alloc (below_alloc (Below.refl _ _) _) _
  rw [← hw2]
  have HB2 := Aside0.mk hB2
  clear hw2 hB2
  refine (HBS.out w2 (HG.out.below HB2.out)).mono ?_
  rintro e w3 ⟨v, rfl, hR, hb3⟩
  obtain ⟨A, c, rfl, hlc, hC⟩ := Kd.R_reads hR
  rw [tri0_len]
  rw [tri0_len] at hlc
  have kT := blk_below kT hb3
  have kW := blk_below kW hb3
  have HB3 := Aside0.mk (HB2.out.trans (hb3.mono HB2.out.size))
  have HC := Aside0.mk hC
  have HLC := Aside0.mk hlc
  have hw4 : IntKind.i64.wrap (3 + 1) = 4 := by decide
  clear hR hC hlc hb3 HBS
  go_wp2_with fail
  go_loopw [20] (fun iv wr => ∃ n : Nat, n ≤ 1 ∧ iv = .int .i64 n ∧ wr.heap[w.heap.size]? = some (TB 4) ∧ wr.heap[w.heap.size + 1]? = some WB ∧ Below w3.heap.size w3 wr) (fun iv _ => 1 - (intOf iv).toNat)
  case atStart => exact ⟨0, by omega, rfl, kT, kW, Below.refl _ _⟩
  case round =>
    clear kT kW
    obtain ⟨n, hn, rfl, kT, kW, hB⟩ := hrel
    have KT := Aside0.mk kT
    have KW := Aside0.mk kW
    have HB := Aside0.mk hB
    have hz3 := hB.size
    have lT := blk_lt kT
    have lW := blk_lt kW
    clear kT kW hB
    have hnn : n = 0 ∨ n = 1 := by omega
    rcases hnn with rfl | rfl
    · go_upto_region 6 with (fail)
      obtain ⟨w5, hw5⟩ : ∃ W, W = wr.alloc (.cells #[.bool false, .bool true] 4) := ⟨_, rfl⟩
      have kB : w5.heap[wr.heap.size]? = some FB := by rw [hw5]; exact blk_new _ _
      have hB5 : Below wr.heap.size wr w5 := by rw [hw5]; exact below_alloc (Below.refl _ _) _
      rw [← hw5]
      obtain ⟨gB, hgB⟩ : ∃ g, g = wr.heap.size := ⟨_, rfl⟩
      rw [← hgB] at kB ⊢
      have kT := blk_below KT.out hB5
      have kW := blk_below KW.out hB5
      have HB5 := Aside0.mk (HB.out.trans (hB5.mono hz3))
      clear hw5 hB5 hgB KT KW HB
      try rw [show ((0 : Nat) : Int) = 0 from rfl]
      go_loopw [25] (fun iv wr => ∃ j : Nat, j ≤ 2 ∧ iv = .int .i64 j ∧ wr.heap[w.heap.size]? = some (TB 4) ∧ wr.heap[w.heap.size + 1]? = some WB ∧ wr.heap[gB]? = some FB ∧ Below w3.heap.size w3 wr) (fun iv _ => 2 - (intOf iv).toNat)
      case atStart => exact ⟨0, by omega, rfl, kT, kW, kB, HB5.out⟩
      case round =>
        clear kT kW kB HB5
        obtain ⟨j, hj, rfl, kT, kW, kB, hB⟩ := hrel
        have KT := Aside0.mk kT
        have KW := Aside0.mk kW
        have KB := Aside0.mk kB
        have HB := Aside0.mk hB
        have hz3 := hB.size
        have b0 := blk_cell kB 0
        have b1 := blk_cell kB 1
        simp only [List.getElem?_toArray, List.getElem?_cons_zero, List.getElem?_cons_succ] at b0 b1
        have lT := blk_lt kT
        have lW := blk_lt kW
        have lB := blk_lt kB
        have hS : S6 w.heap.size 4 wr.drew wr.drew := ⟨blk_cell kT 0, blk_cell kT 1, blk_cell kT 2, blk_cell kT 3, blk_cell kT 4, Below.refl _ _⟩
        clear kT kW kB hB
        have hjj : j = 0 ∨ j = 1 ∨ j = 2 := by omega
        rcases hjj with rfl | rfl | rfl
        · obtain ⟨r0, r1, f0, f1, hr⟩ : ∃ r0 r1, XNext.f 2 2 4 0 0 0 false 0 = some r0 ∧ XNext.f 2 2 4 0 0 1 false 0 = some r1 ∧ (r0 == r1) = true := ⟨_, _, rfl, rfl, by decide +kernel⟩
          have c0 := fun W => XNext.calls 2 2 4 0 0 0 false 0 r0 W f0
          have c1 := fun W => XNext.calls 2 2 4 0 0 1 false 0 r1 W f1
          clear f0 f1
          go_upto_region 8 with (fail)
          go_region_held3 (fun W => W.cell? ⟨w.heap.size, 0, none⟩ = some (.int .i64 2) ∧ W.cell? ⟨w.heap.size, 1, none⟩ = some (.int .u64 2) ∧ W.cell? ⟨w.heap.size, 2, none⟩ = some (.int .u64 4) ∧ W.cell? ⟨w.heap.size, 3, none⟩ = some (.int .u64 0) ∧ W.cell? ⟨w.heap.size, 4, none⟩ = some (.int .u64 0) ∧ Below wr.drew.heap.size wr.drew W)
            (assumption)
            (first | (go_at_call 58; (first | (with_reducible refine (c0 _).mono ?_) | (with_reducible refine (c1 _).mono ?_)); rintro e wN ⟨rfl, hbN⟩; have hSN := S6.next (by assumption : S6 w.heap.size 4 wr.drew _) hbN; clear hbN))
          all_goals (
            have hF := hSN.2.2.2.2.2
            have hBw := (below_drew HB.out).trans (hF.mono (by show w3.heap.size ≤ wr.heap.size; omega))
            have FF := Aside0.mk (And.intro (blk_below (w := wr.drew) KT.out hF) (And.intro (blk_below (w := wr.drew) KW.out hF) (And.intro (blk_below (w := wr.drew) KB.out hF) hBw)))
            clear hF hSN hBw hS
            go_wp2
            go_roundw
            case rel => exact ⟨1, by omega, by first | rfl | go_num, FF.out.1, FF.out.2.1, FF.out.2.2.1, FF.out.2.2.2⟩
            case measure => simp [intOf])
        · obtain ⟨r0, r1, f0, f1, hr⟩ : ∃ r0 r1, XNext.f 2 2 4 0 0 0 true 0 = some r0 ∧ XNext.f 2 2 4 0 0 1 true 0 = some r1 ∧ (r0 == r1) = true := ⟨_, _, rfl, rfl, by decide +kernel⟩
          have c0 := fun W => XNext.calls 2 2 4 0 0 0 true 0 r0 W f0
          have c1 := fun W => XNext.calls 2 2 4 0 0 1 true 0 r1 W f1
          clear f0 f1
          go_upto_region 8 with (fail)
          go_region_held3 (fun W => W.cell? ⟨w.heap.size, 0, none⟩ = some (.int .i64 2) ∧ W.cell? ⟨w.heap.size, 1, none⟩ = some (.int .u64 2) ∧ W.cell? ⟨w.heap.size, 2, none⟩ = some (.int .u64 4) ∧ W.cell? ⟨w.heap.size, 3, none⟩ = some (.int .u64 0) ∧ W.cell? ⟨w.heap.size, 4, none⟩ = some (.int .u64 0) ∧ Below wr.drew.heap.size wr.drew W)
            (assumption)
            (first | (go_at_call 58; (first | (with_reducible refine (c0 _).mono ?_) | (with_reducible refine (c1 _).mono ?_)); rintro e wN ⟨rfl, hbN⟩; have hSN := S6.next (by assumption : S6 w.heap.size 4 wr.drew _) hbN; clear hbN))
          all_goals (
            have hF := hSN.2.2.2.2.2
            have hBw := (below_drew HB.out).trans (hF.mono (by show w3.heap.size ≤ wr.heap.size; omega))
            have FF := Aside0.mk (And.intro (blk_below (w := wr.drew) KT.out hF) (And.intro (blk_below (w := wr.drew) KW.out hF) (And.intro (blk_below (w := wr.drew) KB.out hF) hBw)))
            clear hF hSN hBw hS
            go_wp2
            go_roundw
            case rel => exact ⟨2, by omega, by first | rfl | go_num, FF.out.1, FF.out.2.1, FF.out.2.2.1, FF.out.2.2.2⟩
            case measure => simp [intOf])
        · go_wp2
          go_roundw
          case rel => exact ⟨0 + 1, by omega, by first | rfl | go_num, KT.out, KW.out, HB.out⟩
          case measure => first | (simp [intOf]; done) | (simp [intOf]; omega)
    · go_upto_region 6 with (fail)
      obtain ⟨w5, hw5⟩ : ∃ W, W = wr.alloc (.cells #[.bool false, .bool true] 4) := ⟨_, rfl⟩
      have kB : w5.heap[wr.heap.size]? = some FB := by rw [hw5]; exact blk_new _ _
      have hB5 : Below wr.heap.size wr w5 := by rw [hw5]; exact below_alloc (Below.refl _ _) _
      rw [← hw5]
      obtain ⟨gB, hgB⟩ : ∃ g, g = wr.heap.size := ⟨_, rfl⟩
      rw [← hgB] at kB ⊢
      have kT := blk_below KT.out hB5
      have kW := blk_below KW.out hB5
      have HB5 := Aside0.mk (HB.out.trans (hB5.mono hz3))
      clear hw5 hB5 hgB KT KW HB
      try rw [show ((1 : Nat) : Int) = 1 from rfl]
      go_loopw [25] (fun iv wr => ∃ j : Nat, j ≤ 0 ∧ iv = .int .i64 j ∧ wr.heap[w.heap.size]? = some (TB 4) ∧ wr.heap[w.heap.size + 1]? = some WB ∧ wr.heap[gB]? = some FB ∧ Below w3.heap.size w3 wr) (fun iv _ => 0 - (intOf iv).toNat)
      case atStart => exact ⟨0, by omega, rfl, kT, kW, kB, HB5.out⟩
      case round =>
        clear kT kW kB HB5
        obtain ⟨j, hj, rfl, kT, kW, kB, hB⟩ := hrel
        have KT := Aside0.mk kT
        have KW := Aside0.mk kW
        have KB := Aside0.mk kB
        have HB := Aside0.mk hB
        have hz3 := hB.size
        have b0 := blk_cell kB 0
        have b1 := blk_cell kB 1
        simp only [List.getElem?_toArray, List.getElem?_cons_zero, List.getElem?_cons_succ] at b0 b1
        have lT := blk_lt kT
        have lW := blk_lt kW
        have lB := blk_lt kB
        have hS : S6 w.heap.size 4 wr.drew wr.drew := ⟨blk_cell kT 0, blk_cell kT 1, blk_cell kT 2, blk_cell kT 3, blk_cell kT 4, Below.refl _ _⟩
        clear kT kW kB hB
        have hjj : j = 0 := by omega
        rcases hjj with rfl
        · obtain ⟨r0, r1, f0, f1, hr⟩ : ∃ r0 r1, XNext.f 2 2 4 0 0 0 false 1 = some r0 ∧ XNext.f 2 2 4 0 0 1 false 1 = some r1 ∧ (r0 == r1) = false := ⟨_, _, rfl, rfl, by decide +kernel⟩
          have c0 := fun W => XNext.calls 2 2 4 0 0 0 false 1 r0 W f0
          have c1 := fun W => XNext.calls 2 2 4 0 0 1 false 1 r1 W f1
          clear f0 f1
          go_upto_region 8 with (fail)
          go_region_held3 (fun W => W.cell? ⟨w.heap.size, 0, none⟩ = some (.int .i64 2) ∧ W.cell? ⟨w.heap.size, 1, none⟩ = some (.int .u64 2) ∧ W.cell? ⟨w.heap.size, 2, none⟩ = some (.int .u64 4) ∧ W.cell? ⟨w.heap.size, 3, none⟩ = some (.int .u64 0) ∧ W.cell? ⟨w.heap.size, 4, none⟩ = some (.int .u64 0) ∧ Below wr.drew.heap.size wr.drew W)
            (assumption)
            (first | (go_at_call 58; (first | (with_reducible refine (c0 _).mono ?_) | (with_reducible refine (c1 _).mono ?_)); rintro e wN ⟨rfl, hbN⟩; have hSN := S6.next (by assumption : S6 w.heap.size 4 wr.drew _) hbN; clear hbN))
          all_goals (
            have hF := hSN.2.2.2.2.2
            have hBw := (below_drew HB.out).trans (hF.mono (by show w3.heap.size ≤ wr.heap.size; omega))
            have FF := Aside0.mk (And.intro (blk_below (w := wr.drew) KT.out hF) (And.intro (blk_below (w := wr.drew) KW.out hF) (And.intro (blk_below (w := wr.drew) KB.out hF) hBw)))
            clear hF hSN hBw hS
            obtain ⟨i0, hi0, _, _, _⟩ := info_parts info65
            have hcut := cut_to (P := Tryd.prog) 34 65 .i64 Tryd.underlying34 hi0 A 3 c 1 (by decide) (by decide) HLC.out
            rw [show (1 : Int).toNat = 1 from rfl] at hcut
            have hC1 := Kd.C_take (m := 1) (Kd.C_below HC.out FF.out.2.2.2) (by rw [tri0_len]; decide)
            have hlen1 : (tri0.take 1).length = 1 := by decide +kernel
            have cl := XClone.calls A c (tri0.take 1) (tri0.take 1) _ hC1 (by rw [hlen1]; have := HLC.out; omega) (by unfold XClone.f; rw [if_pos (by rw [hlen1]; decide)])
            have co := fun A9 c9 W h1 h2 => XOf.calls A9 c9 (tri0.take 1) (ofL (tri0.take 1)) W h1 h2 (by unfold XOf.f; rw [if_pos (by rw [hlen1]; decide)])
            have CO := Aside0.mk co
            have CL := Aside0.mk cl
            clear hC1 cl co hi0 b0 b1
            rw [hlen1] at CL CO
            go_wp2_with fail
            refine CL.out.mono ?_
            rintro e wC ⟨v9, rfl, hR9, hb9⟩
            obtain ⟨A9, c9, rfl, hl9, hC9⟩ := Kd.R_reads hR9
            have kW9 := blk_below FF.out.2.1 hb9
            have hz9 := FF.out.2.2.2.size
            have HB9 := Aside0.mk (FF.out.2.2.2.trans (hb9.mono hz9))
            rw [hlen1] at hl9 hC9 ⊢
            have co9 := CO.out A9 c9 _ hC9 hl9
            have CO9 := Aside0.mk co9
            clear hR9 hb9 hC9 hl9 co9 CO CL hcut
            go_wp2_with fail
            refine CO9.out.mono ?_
            rintro e wO ⟨v10, rfl, hR10, hb10⟩
            have kW10 := blk_below kW9 hb10
            have HB10 := Aside0.mk (HB9.out.trans (hb10.mono HB9.out.size))
            obtain ⟨A10, c10, rfl, _, _⟩ := Kd.R_reads hR10
            clear hR10 hb10 CO9
            have g0 := blk_cell kW10 0
            have g1 := blk_cell kW10 1
            have gf := blk_frozen kW10
            have KW10 := Aside0.mk kW10
            simp only [List.getElem?_toArray, List.getElem?_cons_zero, List.getElem?_cons_succ] at g0 g1
            clear kW10 kW9
            go_wp2
            have hr := blk_set (blk_set KW10.out 0 (.slice A10 (ofL (tri0.take 1)).length c10)) 1 (.int .i64 1)
            exact bodyPost_ret (results_ct rfl _ _ (w.heap.size + 1) 37 #[.slice A10 (ofL (tri0.take 1)).length c10, .int .i64 1] (0, 0) _ rfl hr Tryd.underlying37 rfl (by kernel_rfl)) rfl ⟨⟨_, _, _, _, rfl⟩, Below.setCell (p := ⟨w.heap.size + 1, 1, none⟩) (Below.setCell (p := ⟨w.heap.size + 1, 0, none⟩) (HB3.out.trans (HB10.out.mono HB3.out.size)) (by show w.heap.size ≤ w.heap.size + 1; omega) _) (by show w.heap.size ≤ w.heap.size + 1; omega) _⟩)

theorem check2 (b1 : Int) (h : b1 = 2 ∨ b1 = 4) (w : World) : Calls Tryd.prog 53 #[.agg #[.int .i64 2, .int .u64 2, .int .u64 b1, .int .u64 0, .int .u64 0]] w fun e w' => e = .returned .nilIface ∧ Below w.heap.size w w' := by
  have h1 : XTCheck.f 2 2 b1 0 0 = some none := by rcases h with rfl | rfl <;> decide +kernel
  have := XTCheck.calls 2 2 b1 0 0 none w h1
  rwa [errW_none] at this
set_option maxRecDepth 100000 in
set_option maxHeartbeats 4000000 in
theorem isoCheck2 (b1 : Int) (ok : Bool) (h : b1 = 2 ∨ b1 = 4) (w : World) (hG : Six w)
    (htri : ∀ W, Six W → Calls Tryd.prog 55 #[.agg #[.int .i64 2, .int .u64 2, .int .u64 b1, .int .u64 0, .int .u64 0]] W fun e w' => (∃ (A : Option Addr) (n c : Nat) (o : Int), e = .returned (.tuple #[.agg #[.slice A n c, .int .i64 o], .bool ok])) ∧ Below W.heap.size W w') :
    Calls Tryd.prog 17 #[.agg #[.int .i64 2, .int .u64 2, .int .u64 b1, .int .u64 0, .int .u64 0]] w fun e w' => (∃ (A : Option Addr) (n c : Nat) (o : Int), e = .returned (.tuple #[.agg #[.slice A n c, .int .i64 o], .bool ok, .nilIface])) ∧ Below w.heap.size w w' := by
  have HT := Aside0.mk htri
  have HG := Aside0.mk hG
  have hck := fun W => check2 b1 h W
  have HCK := Aside0.mk hck
  clear htri hG hck h
  go_enter Tryd.func17, Tryd.ntmps17
  go_wp2_with fail
  obtain ⟨w2, hw2⟩ : ∃ W, W = (w.alloc (.cells #[.int .i64 2, .int .u64 2, .int .u64 b1, .int .u64 0, .int .u64 0] 29)).alloc (.cells #[.slice none 0 0, .int .i64 0] 37) := ⟨_, rfl⟩
  have kT : w2.heap[w.heap.size]? = some (TB b1) := by rw [hw2]; exact blk_alloc (blk_new _ _) _
  have kW : w2.heap[w.heap.size + 1]? = some WB := by
    have := blk_new (w.alloc (.cells #[.int .i64 2, .int .u64 2, .int .u64 b1, .int .u64 0, .int .u64 0] 29)) WB
    rw [World.size_alloc] at this
    rw [hw2]; exact this
  have hB2 : Below w.heap.size w w2 := by rw [hw2]; exact below_alloc (below_alloc (Below.refl _ _) _) _
  rw [← hw2]
  have HB2 := Aside0.mk hB2
  clear hw2 hB2
  refine (HCK.out w2).mono ?_
  rintro e w3 ⟨rfl, hb3⟩
  have kT := blk_below kT hb3
  have kW := blk_below kW hb3
  have HB3 := Aside0.mk (HB2.out.trans (hb3.mono HB2.out.size))
  have t0 := blk_cell kT 0
  have t1 := blk_cell kT 1
  have t2 := blk_cell kT 2
  have t3 := blk_cell kT 3
  have t4 := blk_cell kT 4
  simp only [List.getElem?_toArray, List.getElem?_cons_zero, List.getElem?_cons_succ] at t0 t1 t2 t3 t4
  clear hb3 kT HCK
  go_wp2_with fail
  refine (HT.out _ (HG.out.below HB3.out)).mono ?_
  rintro e w4 ⟨⟨A, n, c, o, rfl⟩, hb4⟩
  have kW := blk_below kW hb4
  have hz3 := HB3.out.size
  have HB4 := Aside0.mk (HB3.out.trans (hb4.mono hz3))
  have KW := Aside0.mk kW
  have hz4 := HB4.out.size
  have g0 := blk_cell kW 0
  have g1 := blk_cell kW 1
  have gf := blk_frozen kW
  simp only [List.getElem?_toArray, List.getElem?_cons_zero, List.getElem?_cons_succ] at g0 g1
  have lW := blk_lt kW
  clear t0 t1 t2 t3 t4 hb4 kW HT
  go_wp2
  have hr := fun ob : Obj => blk_alloc (blk_set (blk_set KW.out 0 (.slice A n c)) 1 (.int .i64 o)) ob
  refine bodyPost_ret (results_ctt rfl _ _ (w.heap.size + 1) 37 #[.slice A n c, .int .i64 o] (0, 0) _ rfl (hr _) Tryd.underlying37 rfl (by kernel_rfl)) rfl ⟨⟨_, _, _, _, rfl⟩, ?_⟩
  exact below_alloc2 (Below.setCell (p := ⟨w.heap.size + 1, 1, none⟩) (Below.setCell (p := ⟨w.heap.size + 1, 0, none⟩) HB4.out (by show w.heap.size ≤ w.heap.size + 1; omega) _) (by show w.heap.size ≤ w.heap.size + 1; omega) _) (by simp only [World.size_setCell]; exact hz4) _
theorem keeps0_f : iso_Keeps.f 70 2 2 4 0 0 0 = some true := by decide +kernel
theorem keeps1_f : iso_Keeps.f 70 2 2 4 0 0 1 = some false := by decide +kernel
set_option maxRecDepth 100000 in
set_option maxHeartbeats 4000000 in
theorem awake07_any (w : World) (hG : Six w) : Calls Tryd.prog 13 #[] w fun e w' => e = .returned (.bool true) ∧ Below w.heap.size w w' := by
  have c1 := fun W hW => isoCheck2 4 true (.inr rfl) W hW (fun W2 h2 => tri_first W2 h2)
  have c2 := fun W hW => isoCheck2 2 false (.inl rfl) W hW (fun W2 h2 => tri_same W2 h2)
  have c3 := fun W hW => iso_Keeps.calls 70 2 2 4 0 0 0 true W hW keeps0_f
  have c4 := fun W hW => iso_Keeps.calls 70 2 2 4 0 0 1 false W hW keeps1_f
  have C1 := Aside0.mk c1
  have C2 := Aside0.mk c2
  have C3 := Aside0.mk c3
  have C4 := Aside0.mk c4
  have HG := Aside0.mk hG
  clear c1 c2 c3 c4 hG
  go_enter Tryd.func13, Tryd.ntmps13
  go_wp2_with fail
  obtain ⟨w1, hw1⟩ : ∃ W, W = w.alloc (.cells #[.int .i64 2, .int .u64 2, .int .u64 4, .int .u64 0, .int .u64 0] 29) := ⟨_, rfl⟩
  have kT : w1.heap[w.heap.size]? = some (TB 4) := by rw [hw1]; exact blk_new _ _
  have hB1 : Below w.heap.size w w1 := by rw [hw1]; exact below_alloc (Below.refl _ _) _
  rw [← hw1]
  have HB1 := Aside0.mk hB1
  clear hw1 hB1
  refine (C1.out _ (HG.out.below HB1.out)).mono ?_
  rintro e w2 ⟨⟨A, n, c, o, rfl⟩, hb2⟩
  have kT := blk_below kT hb2
  have HB2 := Aside0.mk (HB1.out.trans (hb2.mono HB1.out.size))
  clear hb2
  go_wp2_with fail
  obtain ⟨w3, hw3⟩ : ∃ W, W = w2.alloc (.cells #[.slice A n c, .int .i64 o] 37) := ⟨_, rfl⟩
  have hB3 : Below w2.heap.size w2 w3 := by rw [hw3]; exact below_alloc (Below.refl _ _) _
  rw [← hw3]
  have kT := blk_below kT hB3
  have HB3 := Aside0.mk (HB2.out.trans (hB3.mono HB2.out.size))
  clear hw3 hB3
  refine (C2.out _ (HG.out.below HB3.out)).mono ?_
  rintro e w4 ⟨⟨A2, n2, cc2, o2, rfl⟩, hb4⟩
  have kT := blk_below kT hb4
  have HB4 := Aside0.mk (HB3.out.trans (hb4.mono HB3.out.size))
  clear hb4
  have lT := blk_lt kT
  have hz4 := HB4.out.size
  have KT := Aside0.mk kT
  have t0 := fun ob : Obj => blk_cell (blk_alloc kT ob) 0
  have t1 := fun ob : Obj => blk_cell (blk_alloc kT ob) 1
  have t2 := fun ob : Obj => blk_cell (blk_alloc kT ob) 2
  have t3 := fun ob : Obj => blk_cell (blk_alloc kT ob) 3
  have t4 := fun ob : Obj => blk_cell (blk_alloc kT ob) 4
  simp only [List.getElem?_toArray, List.getElem?_cons_zero, List.getElem?_cons_succ] at t0 t1 t2 t3 t4
  clear kT
  go_wp2_with fail
  obtain ⟨w5, hw5⟩ : ∃ W, W = w4.alloc (.cells #[.slice A2 n2 cc2, .int .i64 o2] 37) := ⟨_, rfl⟩
  have hB5 : Below w4.heap.size w4 w5 := by rw [hw5]; exact below_alloc (Below.refl _ _) _
  rw [← hw5]
  have kT := blk_below KT.out hB5
  have HB5 := Aside0.mk (HB4.out.trans (hB5.mono hz4))
  clear hw5 hB5 t0 t1 t2 t3 t4
  refine (C3.out _ (HG.out.below HB5.out)).mono ?_
  rintro e w6 ⟨rfl, hb6⟩
  have kT := blk_below kT hb6
  have HB6 := Aside0.mk (HB5.out.trans (hb6.mono HB5.out.size))
  clear hb6
  have t0 := blk_cell kT 0
  have t1 := blk_cell kT 1
  have t2 := blk_cell kT 2
  have t3 := blk_cell kT 3
  have t4 := blk_cell kT 4
  simp only [List.getElem?_toArray, List.getElem?_cons_zero, List.getElem?_cons_succ] at t0 t1 t2 t3 t4
  go_wp2_with fail
  refine (C4.out _ (HG.out.below HB6.out)).mono ?_
  rintro e w7 ⟨rfl, hb7⟩
  have HB7 := Aside0.mk (HB6.out.trans (hb7.mono HB6.out.size))
  clear hb7 t0 t1 t2 t3 t4 kT
  go_wp2
  go_ret
  exact ⟨rfl, HB7.out⟩
def XAwake07.f : Option Bool := some true
theorem XAwake07.calls (r : Bool) (w : World) (hGSix : Six w) (h : XAwake07.f = some r) : Calls Tryd.prog 13 #[] w fun e w' => e = .returned (.bool r) ∧ Below w.heap.size w w' := by
  obtain rfl := Option.some.inj h
  exact awake07_any w hGSix
end Go.Proofs.YtaeenefdbahfoaaDoor
