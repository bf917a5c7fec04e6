/- (Set).Box. -/
import Derived.Test.YtpekdgdogmaohaaOrd
import Derived.Deep.RegionHeld3
import Derived.BigRegion
import Derived.Deep.DeepCutAuto
namespace Go.Proofs.Ytpekdgdogmaohaa
open Go.RowKit Go.Proofs.YtpekdgdogmaohaaW.PrintWords Go.Proofs.YtpekdgdogmaohaaW.PrintLast Go.Proofs.YtpekdgdogmaohaaW.PrintMore
open H
open Go.Shelf Go.RowKit Go.Lib Go.Sort

def boxS (b : Int × Int × Int × Int) (x : CL) : Int × Int × Int × Int := (min b.1 x.f0.f0, min b.2.1 x.f0.f1, max b.2.2.1 x.f0.f0, max b.2.2.2 x.f0.f1)
def boxL (l : List CL) (x : CL) : Int × Int × Int × Int := l.foldl boxS (x.f0.f0, x.f0.f1, x.f0.f0, x.f0.f1)
def XBox.f (l : List CL) : Option (Int × Int × Int × Int × Bool) := if l.length < 1099511627776 then some (match l with
  | [] => (0, 0, 0, 0, false)
  | x :: r => ((boxL (x :: r) x).1, (boxL (x :: r) x).2.1, (boxL (x :: r) x).2.2.1, (boxL (x :: r) x).2.2.2, true)) else none

theorem box_nil (A0 : Option Addr) (c0 : Nat) (w : World) :
    Calls Try.prog 18 #[.slice A0 0 c0] w fun e w' => e = .returned (.tuple #[.agg #[.int .i64 0, .int .i64 0, .int .i64 0, .int .i64 0], .bool false]) ∧ Below w.heap.size w w' := by
  go_enter Try.func18, Try.ntmps18
  go_wp2
  exact bodyPost_ret (v := .tuple #[.agg #[.int .i64 0, .int .i64 0, .int .i64 0, .int .i64 0], .bool false]) (by simp [results, Try.results18, go_sem]) rfl ⟨rfl, (by with_reducible repeat (first | apply below_alloc | apply pw_below_drewN | apply below_drew | refine bset ?_ _ _ (by omega) _ | exact Below.refl _ _))⟩

set_option maxRecDepth 100000 in
set_option maxHeartbeats 4000000 in
theorem box_any (l : List CL) (A0 : Option Addr) (c0 : Nat) (w : World) (hr0 : Kd.C k37 w A0 l.length l) (hn : l.length < 1099511627776) (h0 : 0 < l.length) (B : Int × Int × Int × Int) (hB : B = boxL l l[0]) :
    Calls Try.prog 18 #[.slice A0 l.length c0] w fun e w' => e = .returned (.tuple #[.agg #[.int .i64 B.1, .int .i64 B.2.1, .int .i64 B.2.2.1, .int .i64 B.2.2.2], .bool true]) ∧ Below w.heap.size w w' := by
  have hz : ((l.length : Int) == 0) = false := beq_eq_false_iff_ne.2 (by omega)
  have hz2 : (l.length == 0) = false := beq_eq_false_iff_ne.2 (by omega)
  obtain ⟨ad, rfl, a0, a1, a2⟩ := at_T37 hr0 0 (by omega) (by omega)
  have hx : rd_T37 l 0 = l[0] := by simp [rd_T37, h0]
  rw [hx] at a0 a1 a2
  have HB := Aside0.mk hB
  clear hB hx
  generalize l[0] = x at a0 a1 a2 HB
  have HR := Aside0.mk hr0
  clear hr0
  simp only [Int.toNat_zero, Nat.zero_mul, Addr.add_zero'] at a0 a1 a2
  go_enter Try.func18, Try.ntmps18
  go_wp2_with fail
  obtain ⟨w1, hw1, hcc, hsz, hB1⟩ := one_new w #[.int .i64 0, .int .i64 0, .int .i64 0, .int .i64 0] 43
  have hrb : w1.heap[w.heap.size]? = some (.cells #[.int .i64 0, .int .i64 0, .int .i64 0, .int .i64 0] 43 (0, 0)) := by
    rw [hw1]
    exact blk_new w _
  rw [← hw1]
  clear hw1 hcc
  have a0 := pw_cell_below hB1 a0
  have a1 := pw_cell_below hB1 a1
  have a2 := pw_cell_below hB1 a2
  have RB1 := Aside0.mk hrb
  have HB1 := Aside0.mk hB1
  have R1 := Aside0.mk (Kd.C_below HR.out hB1)
  clear hB1 hrb HR
  have hi : (0 : Int) < (l.length : Int) := by omega
  go_region_held3 (fun W => W.cell? ad = some (.int .i64 x.f0.f0) ∧ W.cell? ⟨ad.block, ad.off + 1, none⟩ = some (.int .i64 x.f0.f1)) (go_keep) (fail)
  obtain ⟨w2, hw2⟩ : ∃ w2, w2 = (w1.alloc (.cells #[.int .i64 x.f0.f0, .int .i64 x.f0.f1, .int .i64 x.f0.f0, .int .i64 x.f0.f1] 43)).drew := ⟨_, rfl⟩
  have hg2 : w2.heap[w1.heap.size]? = some (.cells #[.int .i64 x.f0.f0, .int .i64 x.f0.f1, .int .i64 x.f0.f0, .int .i64 x.f0.f1] 43 (0, 0)) := by
    rw [hw2]
    exact blk_new w1 _
  have hB2 : Below w1.heap.size w1 w2 := by
    rw [hw2]
    exact below_drew (below_alloc (Below.refl _ _) _)
  rw [← hw2]
  clear hw2 a0 a1 a2
  have G2 := Aside0.mk hg2
  have HB2 := Aside0.mk hB2
  clear hg2 hB2
  go_wp2
  go_loopw [22] (fun i wr => ∃ (k : Nat) (b : Int × Int × Int × Int), k ≤ l.length ∧ i = .int .i64 k ∧ b = (l.take k).foldl boxS (x.f0.f0, x.f0.f1, x.f0.f0, x.f0.f1) ∧ wr.heap[w1.heap.size]? = some (.cells #[.int .i64 b.1, .int .i64 b.2.1, .int .i64 b.2.2.1, .int .i64 b.2.2.2] 43 (0, 0)) ∧ Below w1.heap.size w1 wr) (fun i _ => l.length - (intOf i).toNat)
  case atStart => exact ⟨0, _, by omega, rfl, rfl, G2.out, HB2.out⟩
  case round =>
    obtain ⟨k, b, hk, rfl, hb, hg, hB⟩ := hrel
    have BB := Aside0.mk hb
    have HBR := Aside0.mk hB
    have hzr := hB.size
    have hgl := blk_lt hg
    have R2 := Aside0.mk (Kd.C_below R1.out hB)
    have GR := Aside0.mk hg
    clear hb hB hg
    by_cases hlt : k < l.length
    · obtain ⟨ad2, e2, b0, b1, b2⟩ := at_T37 R2.out k (by omega) (by omega)
      cases e2
      rw [Int.toNat_natCast] at b0 b1 b2
      have hx2 : rd_T37 l k = l[k] := by simp [rd_T37, hlt]
      have htk : l.take (k + 1) = l.take k ++ [l[k]] := by
        rw [List.take_add_one, List.getElem?_eq_getElem hlt]
        rfl
      rw [hx2] at b0 b1 b2
      generalize l[k] = y at b0 b1 b2 htk
      have HTK := Aside0.mk htk
      clear htk hx2
      go_upto_region 7 with (fail)
      obtain ⟨w5, hw5, hcc5, hsz5, hB5⟩ := one_new wr #[.int .i64 y.f0.f0, .int .i64 y.f0.f1, .int .i64 y.f1] 37
      rw [← hw5]
      have y0 : w5.cell? ⟨wr.heap.size, 0, none⟩ = some (.int .i64 y.f0.f0) := hcc5 0 _ rfl
      have y1 : w5.cell? ⟨wr.heap.size, 1, none⟩ = some (.int .i64 y.f0.f1) := hcc5 1 _ rfl
      have hg5 := blk_below GR.out hB5
      have Y1 := Aside0.mk y1
      have G5 := Aside0.mk hg5
      have HB5 := Aside0.mk (HBR.out.trans (hB5.mono hzr))
      have hne : ¬ wr.heap.size = w1.heap.size := by omega
      have hne2 : ¬ w1.heap.size = wr.heap.size := by omega
      clear hw5 hcc5 hB5 b0 b1 b2
      go_cut [] (fun wc => Aside0 (wc.heap[w1.heap.size]? = some (.cells #[.int .i64 (min b.1 y.f0.f0), .int .i64 b.2.1, .int .i64 (max b.2.2.1 y.f0.f0), .int .i64 b.2.2.2] 43 (0, 0))) ∧ Aside0 (wc.cell? ⟨wr.heap.size, 1, none⟩ = some (.int .i64 y.f0.f1)) ∧ Aside0 (Below w1.heap.size w1 wc))
      case first =>
        have g0 := blk_cell hg5 0
        have g1 := blk_cell hg5 1
        have g2 := blk_cell hg5 2
        have g3 := blk_cell hg5 3
        have gf := blk_frozen hg5
        clear hg5
        simp at g0 g1 g2 g3
        go_region
        all_goals
          go_wp2
          go_meet
          case rel =>
            refine ⟨⟨blk_set (blk_set G5.out 0 _) 2 _⟩, ⟨?_⟩, ⟨below_drew (Below.setCell (p := ⟨w1.heap.size, 2, none⟩) (Below.setCell (p := ⟨w1.heap.size, 0, none⟩) HB5.out (Nat.le_refl _) _) (Nat.le_refl _) _)⟩⟩
            show ((w5.setCell ⟨w1.heap.size, 0, none⟩ (.int .i64 (min b.1 y.f0.f0))).setCell ⟨w1.heap.size, 2, none⟩ (.int .i64 (max b.2.2.1 y.f0.f0))).cell? _ = _
            rw [World.cell?_setCell_other _ _ _ _ (by intro e; injection e with e1 e2; omega), World.cell?_setCell_other _ _ _ _ (by intro e; injection e with e1 e2; omega)]
            exact Y1.out
      case rest =>
        obtain ⟨G6, Y1', HB6⟩ := hcut
        clear hg5 y0 y1 G5 HB5 Y1
        obtain ⟨m1, hm1⟩ : ∃ m1, m1 = min b.1 y.f0.f0 := ⟨_, rfl⟩
        obtain ⟨m2, hm2⟩ : ∃ m2, m2 = max b.2.2.1 y.f0.f0 := ⟨_, rfl⟩
        have G6 := G6.out
        rw [← hm1, ← hm2] at G6
        have HM1 := Aside0.mk hm1
        have HM2 := Aside0.mk hm2
        have hg6 := G6
        have G6 := Aside0.mk G6
        clear hm1 hm2
        have g0 := blk_cell hg6 0
        have g1 := blk_cell hg6 1
        have g2 := blk_cell hg6 2
        have g3 := blk_cell hg6 3
        have gf := blk_frozen hg6
        have y1 := Y1'.out
        clear hg6
        simp at g0 g1 g2 g3
        go_wp2
        go_region
        all_goals
          clear g0 g1 g2 g3 gf y1
          go_wp2
          go_roundw
          case rel =>
            exact ⟨k + 1, (m1, min b.2.1 y.f0.f1, m2, max b.2.2.2 y.f0.f1), by omega, by go_num, by rw [HTK.out, List.foldl_append, ← BB.out, HM1.out, HM2.out]; rfl, blk_set (blk_set G6.out 1 _) 3 _, below_drew (Below.setCell (p := ⟨w1.heap.size, 3, none⟩) (Below.setCell (p := ⟨w1.heap.size, 1, none⟩) HB6.out (Nat.le_refl _) _) (Nat.le_refl _) _)⟩
          case measure => simp [intOf]; omega
    · obtain rfl : k = l.length := by omega
      have hbb : B = b := by rw [HB.out, BB.out, List.take_length]; rfl
      subst hbb
      have g0 := blk_cell GR.out 0
      have g1 := blk_cell GR.out 1
      have g2 := blk_cell GR.out 2
      have g3 := blk_cell GR.out 3
      have hr1 := blk_below RB1.out HBR.out
      have q0 := blk_cell hr1 0
      have q1 := blk_cell hr1 1
      have q2 := blk_cell hr1 2
      have q3 := blk_cell hr1 3
      have qf := blk_frozen hr1
      have RR := Aside0.mk hr1
      simp at g0 g1 g2 g3 q0 q1 q2 q3
      clear hr1
      go_wp2
      have hr := blk_set (blk_set (blk_set (blk_set RR.out 0 (.int .i64 B.1)) 1 (.int .i64 B.2.1)) 2 (.int .i64 B.2.2.1)) 3 (.int .i64 B.2.2.2)
      refine bodyPost_ret (results_ct rfl _ _ w.heap.size 43 #[.int .i64 B.1, .int .i64 B.2.1, .int .i64 B.2.2.1, .int .i64 B.2.2.2] (0, 0) _ rfl hr Try.underlying43 rfl (by kernel_rfl)) rfl ⟨rfl, ?_⟩
      exact Below.setCell (p := ⟨w.heap.size, 3, none⟩) (Below.setCell (p := ⟨w.heap.size, 2, none⟩) (Below.setCell (p := ⟨w.heap.size, 1, none⟩) (Below.setCell (p := ⟨w.heap.size, 0, none⟩) (HB1.out.trans (HBR.out.mono (by omega))) (Nat.le_refl _) _) (Nat.le_refl _) _) (Nat.le_refl _) _) (Nat.le_refl _) _

theorem XBox.calls (A0 : Option Addr) (c0 : Nat) (l0 : List S37) (r1 r2 r3 r4 : Int) (r5 : Bool) (w : World) (hr0 : Kd.C k37 w A0 l0.length l0) (_hc0 : l0.length ≤ c0) (h : XBox.f l0 = some (r1, r2, r3, r4, r5)) :
    Calls Try.prog 18 #[.slice A0 l0.length c0] w fun e w' => e = .returned (.tuple #[.agg #[.int .i64 r1, .int .i64 r2, .int .i64 r3, .int .i64 r4], .bool r5]) ∧ Below w.heap.size w w' := by
  unfold XBox.f at h
  by_cases hn : l0.length < 1099511627776
  · rw [if_pos hn] at h
    cases l0 with
    | nil =>
      simp only [Option.some.injEq, Prod.mk.injEq] at h
      obtain ⟨rfl, rfl, rfl, rfl, rfl⟩ := h
      exact box_nil A0 c0 w
    | cons x r =>
      simp only [Option.some.injEq, Prod.mk.injEq] at h
      obtain ⟨rfl, rfl, rfl, rfl, rfl⟩ := h
      exact box_any (x :: r) A0 c0 w hr0 hn (by simp) _ rfl
  · rw [if_neg hn] at h
    cases h
end Go.Proofs.Ytpekdgdogmaohaa
