/- slices.BinarySearchFunc at cells, and (Set).find, (Set).Has. -/
import Derived.Test.YtpekdgdogmaohaaXOf
import Derived.Test.YtpekdgdogmaohaaPCell0
import Derived.Deep.RegionHeld3
namespace Go.Proofs.Ytpekdgdogmaohaa
open Go.RowKit Go.Proofs.YtpekdgdogmaohaaW.PrintWords Go.Proofs.YtpekdgdogmaohaaW.PrintLast Go.Proofs.YtpekdgdogmaohaaW.PrintMore
open H
open Go.Shelf Go.RowKit Go.Lib Go.Sort

theorem cmp_below (x y : CL) (w : World) : Calls Try.prog 29 #[.agg #[.int .i64 x.f0.f0, .int .i64 x.f0.f1, .int .i64 x.f1], .agg #[.int .i64 y.f0.f0, .int .i64 y.f0.f1, .int .i64 y.f1]] w fun e w' => e = .returned (.int .i64 (cmpCell x y)) ∧ Below w.heap.size w w' :=
  cell_Compare.calls 1 _ _ _ _ _ _ _ w (cmp_f 0 x y)

/-- an element's cells, and another cell's; nothing has turned that was there -/
abbrev SB (B : Nat) (w0 : World) (ad : Addr) (g : Nat) (x y : CL) (W : World) : Prop :=
  W.cell? ad = some (.int .i64 x.f0.f0) ∧ W.cell? ⟨ad.block, ad.off + 1, none⟩ = some (.int .i64 x.f0.f1) ∧ W.cell? ⟨ad.block, ad.off + 2, none⟩ = some (.int .i64 x.f1) ∧ W.cell? ⟨g, 0, none⟩ = some (.int .i64 y.f0.f0) ∧ W.cell? ⟨g, 1, none⟩ = some (.int .i64 y.f0.f1) ∧ W.cell? ⟨g, 2, none⟩ = some (.int .i64 y.f1) ∧ Below B w0 W ∧ B ≤ W.heap.size
theorem SB.below {B : Nat} {w0 : World} {ad : Addr} {g : Nat} {x y : CL} {W w1 : World} (h : SB B w0 ad g x y W) (hb : Below W.heap.size W w1) : SB B w0 ad g x y w1 := by
  obtain ⟨h0, h1, h2, h3, h4, h5, h6, h7⟩ := h
  exact ⟨pw_cell_below hb h0, pw_cell_below hb h1, pw_cell_below hb h2, pw_cell_below hb h3, pw_cell_below hb h4, pw_cell_below hb h5, h6.trans (hb.mono h7), Nat.le_trans h7 hb.size⟩

set_option maxRecDepth 100000 in
set_option maxHeartbeats 2000000 in
theorem bsearch_any (l : List CL) (c : CL) (m : Nat) (b : Bool) (A0 : Option Addr) (c0 : Nat) (w : World) (hr0 : Kd.C k37 w A0 l.length l) (hn : l.length < 1099511627776) (hm : m ≤ l.length)
    (hlt : ∀ j : Nat, j < l.length → (cmpCell (rd_T37 l j) c < 0 ↔ j < m)) (hb : b = true ↔ m < l.length ∧ cmpCell (rd_T37 l m) c = 0) :
    Calls Try.prog 50 #[.slice A0 l.length c0, .agg #[.int .i64 c.f0.f0, .int .i64 c.f0.f1, .int .i64 c.f1], .func (.func 29) #[] #[]] w fun e w' => e = .returned (.tuple #[.int .i64 m, .bool b]) ∧ Below w.heap.size w w' := by
  have HR := Aside0.mk hr0
  have HLT := Aside0.mk hlt
  have HBB := Aside0.mk hb
  have HM := Aside0.mk hm
  clear hr0 hlt hb
  go_enter Try.func50, Try.ntmps50
  go_wp2_with fail
  obtain ⟨w1, hw1, hcc, hsz, hB1⟩ := one_new w #[.int .i64 c.f0.f0, .int .i64 c.f0.f1, .int .i64 c.f1] 37
  rw [← hw1]
  clear hw1
  have C0 : Aside0 (w1.cell? ⟨w.heap.size, 0, none⟩ = some (.int .i64 c.f0.f0) ∧ w1.cell? ⟨w.heap.size, 1, none⟩ = some (.int .i64 c.f0.f1) ∧ w1.cell? ⟨w.heap.size, 2, none⟩ = some (.int .i64 c.f1)) := Aside0.mk ⟨hcc 0 _ rfl, hcc 1 _ rfl, hcc 2 _ rfl⟩
  have HB1 := Aside0.mk hB1
  have R1 := Aside0.mk (Kd.C_below HR.out hB1)
  clear hcc hB1 HR
  go_loopw [9, 10] (fun i j wr => ∃ p q : Nat, p ≤ m ∧ m ≤ q ∧ q ≤ l.length ∧ i = .int .i64 p ∧ j = .int .i64 q ∧ Below w1.heap.size w1 wr) (fun i j _ => (intOf j - intOf i).toNat)
  case atStart => exact ⟨0, l.length, by omega, hm, by omega, rfl, rfl, Below.refl _ _⟩
  case round =>
    obtain ⟨p, q, h1, h2, h3, rfl, rfl, hB⟩ := hrel
    have HB := Aside0.mk hB
    have hzr := hB.size
    have c0 := pw_cell_below hB C0.out.1
    have c1 := pw_cell_below hB C0.out.2.1
    have c2 := pw_cell_below hB C0.out.2.2
    have R2 := Aside0.mk (Kd.C_below R1.out hB)
    clear hB
    by_cases hpq : p < q
    · obtain ⟨t, ht⟩ : ∃ t : Nat, t = (p + q) / 2 := ⟨_, rfl⟩
      have ht1 : p ≤ t := by omega
      have ht2 : t < q := by omega
      have htn : t < l.length := by omega
      obtain ⟨ad, rfl, a0, a1, a2⟩ := at_T37 R2.out t (by omega) (by omega)
      have hc := HLT.out t htn
      rw [Int.toNat_natCast] at a0 a1 a2
      generalize rd_T37 l t = x at a0 a1 a2 hc
      have hcmp := cmp_below x c
      generalize cmpCell x c = v at hc hcmp
      have hsum : ((p : Int) + q) / 2 = t := by omega
      have HT := Aside0.mk ht
      clear ht
      have hzt : w.heap.size < wr.heap.size := by omega
      have hit : (t : Int) < (l.length : Int) := by omega
      have hi0 : (0 : Int) ≤ (t : Int) := by omega
      by_cases hv : v < 0
      · have htm : t < m := hc.1 hv
        clear hc
        go_wp2_with fail
        have hS : SB wr.heap.size wr (ad.add (t * 3)) w.heap.size x c wr.drew := ⟨a0, a1, a2, c0, c1, c2, below_drew (Below.refl _ _), Nat.le_refl _⟩
        go_region_held3 (fun W => W.cell? (ad.add (t * 3)) = some (.int .i64 x.f0.f0) ∧ W.cell? ⟨(ad.add (t * 3)).block, (ad.add (t * 3)).off + 1, none⟩ = some (.int .i64 x.f0.f1) ∧ W.cell? ⟨(ad.add (t * 3)).block, (ad.add (t * 3)).off + 2, none⟩ = some (.int .i64 x.f1) ∧ W.cell? ⟨w.heap.size, 0, none⟩ = some (.int .i64 c.f0.f0) ∧ W.cell? ⟨w.heap.size, 1, none⟩ = some (.int .i64 c.f0.f1) ∧ W.cell? ⟨w.heap.size, 2, none⟩ = some (.int .i64 c.f1) ∧ Below wr.heap.size wr W ∧ wr.heap.size ≤ W.heap.size)
          (assumption)
          (first
            | (go_at_call 29; refine (hcmp _).mono ?_; rintro e w3 ⟨rfl, hb3⟩; have hS3 := SB.below (by assumption) hb3; clear hb3))
        all_goals
          have HS3 := Aside0.mk (by assumption : SB wr.heap.size wr (ad.add (t * 3)) w.heap.size x c _).2.2.2.2.2.2.1
          go_wp2
          go_roundw
          case rel => exact ⟨t + 1, q, by omega, by omega, by omega, by go_num, rfl, HB.out.trans (HS3.out.mono (by omega))⟩
          case measure => simp [intOf]; omega
      · have htm : m ≤ t := by
          rcases Nat.lt_or_ge t m with h | h
          · exact absurd (hc.2 h) hv
          · exact h
        clear hc
        go_wp2_with fail
        have hS : SB wr.heap.size wr (ad.add (t * 3)) w.heap.size x c wr.drew := ⟨a0, a1, a2, c0, c1, c2, below_drew (Below.refl _ _), Nat.le_refl _⟩
        go_region_held3 (fun W => W.cell? (ad.add (t * 3)) = some (.int .i64 x.f0.f0) ∧ W.cell? ⟨(ad.add (t * 3)).block, (ad.add (t * 3)).off + 1, none⟩ = some (.int .i64 x.f0.f1) ∧ W.cell? ⟨(ad.add (t * 3)).block, (ad.add (t * 3)).off + 2, none⟩ = some (.int .i64 x.f1) ∧ W.cell? ⟨w.heap.size, 0, none⟩ = some (.int .i64 c.f0.f0) ∧ W.cell? ⟨w.heap.size, 1, none⟩ = some (.int .i64 c.f0.f1) ∧ W.cell? ⟨w.heap.size, 2, none⟩ = some (.int .i64 c.f1) ∧ Below wr.heap.size wr W ∧ wr.heap.size ≤ W.heap.size)
          (assumption)
          (first
            | (go_at_call 29; refine (hcmp _).mono ?_; rintro e w3 ⟨rfl, hb3⟩; have hS3 := SB.below (by assumption) hb3; clear hb3))
        all_goals
          have HS3 := Aside0.mk (by assumption : SB wr.heap.size wr (ad.add (t * 3)) w.heap.size x c _).2.2.2.2.2.2.1
          go_wp2
          go_roundw
          case rel => exact ⟨p, t, by omega, by omega, by omega, rfl, rfl, HB.out.trans (HS3.out.mono (by omega))⟩
          case measure => simp [intOf]; omega
    · obtain rfl : p = m := by omega
      by_cases hpn : p < l.length
      · obtain ⟨ad, rfl, a0, a1, a2⟩ := at_T37 R2.out p (by omega) (by omega)
        rw [Int.toNat_natCast] at a0 a1 a2
        have hbb := HBB.out
        generalize rd_T37 l p = x at a0 a1 a2 hbb
        have hcmp := cmp_below x c
        generalize cmpCell x c = v at hbb hcmp
        have hbv : b = (v == 0) := by
          by_cases hv : v = 0
          · rw [hbb.2 ⟨hpn, hv⟩, hv]
            rfl
          · have : b = false := by
              cases b with
              | false => rfl
              | true => exact absurd (hbb.1 rfl).2 hv
            rw [this]
            simp [hv]
        clear hbb
        subst hbv
        have hit : (p : Int) < (l.length : Int) := by omega
        have hi0 : (0 : Int) ≤ (p : Int) := by omega
        go_wp2_with fail
        have hS : SB wr.heap.size wr (ad.add (p * 3)) w.heap.size x c wr.drew := ⟨a0, a1, a2, c0, c1, c2, below_drew (Below.refl _ _), Nat.le_refl _⟩
        go_region_held3 (fun W => W.cell? (ad.add (p * 3)) = some (.int .i64 x.f0.f0) ∧ W.cell? ⟨(ad.add (p * 3)).block, (ad.add (p * 3)).off + 1, none⟩ = some (.int .i64 x.f0.f1) ∧ W.cell? ⟨(ad.add (p * 3)).block, (ad.add (p * 3)).off + 2, none⟩ = some (.int .i64 x.f1) ∧ W.cell? ⟨w.heap.size, 0, none⟩ = some (.int .i64 c.f0.f0) ∧ W.cell? ⟨w.heap.size, 1, none⟩ = some (.int .i64 c.f0.f1) ∧ W.cell? ⟨w.heap.size, 2, none⟩ = some (.int .i64 c.f1) ∧ Below wr.heap.size wr W ∧ wr.heap.size ≤ W.heap.size)
          (assumption)
          (first
            | (go_at_call 29; refine (hcmp _).mono ?_; rintro e w3 ⟨rfl, hb3⟩; have hS3 := SB.below (by assumption) hb3; clear hb3))
        all_goals
          have HS3 := Aside0.mk (by assumption : SB wr.heap.size wr (ad.add (p * 3)) w.heap.size x c _).2.2.2.2.2.2.1
          go_wp2
          go_ret2
          exact ⟨rfl, HB1.out.trans ((HB.out.trans (HS3.out.mono (by omega))).mono (by omega))⟩
      · obtain rfl : b = false := by
          cases b with
          | false => rfl
          | true => exact absurd (HBB.out.1 rfl).1 hpn
        obtain rfl : p = l.length := by omega
        have hf : decide ((l.length : Int) < (l.length : Int)) = false := by simp
        have hf2 : decide (l.length < l.length) = false := by simp
        go_wp2_with fail
        go_quiet (fail)
        go_wp2
        go_ret2
        exact ⟨rfl, pw_below_drewN (HB1.out.trans (HB.out.mono (by omega))) _⟩
end Go.Proofs.Ytpekdgdogmaohaa
