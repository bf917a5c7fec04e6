/- cell.thirds; (Lattice).On at triangles. -/
import Derived.Test.YtaeenefdbahfoaaDoorGood
namespace Go.Proofs.YtaeenefdbahfoaaDoor
open Go.RowKit Go.Proofs.YtaeenefdbahfoaaDoorW.PrintWords Go.Proofs.YtaeenefdbahfoaaDoorW.PrintLast Go.Proofs.YtaeenefdbahfoaaDoorW.PrintMore
open H
open Go.Shelf Go.RowKit Go.Lib Go.Sort

abbrev CL0 := S65
def turnP (p : Int × Int) : Int × Int := (-p.2, p.1 + p.2)
def thr0 (o a b h : Int) : Int × Int := if o < 6 then (3 * a + 1 + h, 3 * b + 1 + h) else (3 * b + 1 + h, 3 * a + 1 + h)
def thrN (o a b h : Int) : Nat → Int × Int
  | 0 => thr0 o a b h
  | k + 1 => turnP (thrN o a b h k)

theorem thr_bd (o a b h : Int) (hg : goodP a b) (h0 : 0 ≤ h) (h1 : h ≤ 1) (k : Nat) (hk : k ≤ 6) : (-7398046511104 ≤ (thrN o a b h k).1 ∧ (thrN o a b h k).1 ≤ 7398046511104) ∧ (-7398046511104 ≤ (thrN o a b h k).2 ∧ (thrN o a b h k).2 ≤ 7398046511104) := by
  obtain ⟨g1, g2, g3, g4⟩ := hg
  have : k = 0 ∨ k = 1 ∨ k = 2 ∨ k = 3 ∨ k = 4 ∨ k = 5 ∨ k = 6 := by omega
  rcases this with rfl | rfl | rfl | rfl | rfl | rfl | rfl <;> (simp only [thrN, turnP, thr0]; split <;> (simp only []; omega))
theorem thr_mod (o a b h : Int) (h0 : 0 ≤ h) (h1 : h ≤ 1) : ∀ k, (thrN o a b h k).1 % 3 = (thrN o a b h k).2 % 3 ∧ ((thrN o a b h k).1 % 3 = 1 ∨ (thrN o a b h k).1 % 3 = 2)
  | 0 => by simp only [thrN, thr0]; split <;> (simp only []; omega)
  | k + 1 => by
    have := thr_mod o a b h h0 h1 k
    simp only [thrN, turnP]
    omega

set_option maxRecDepth 100000 in
set_option maxHeartbeats 2000000 in
theorem thirds_any (o a b h : Int) (w : World) (ho : 0 ≤ o) (ho' : o < 12) (hg : goodP a b) (h0 : 0 ≤ h) (h1 : h ≤ 1) :
    Calls Tryd.prog 91 #[.int .i64 o, .agg #[.int .i64 a, .int .i64 b, .int .i64 h]] w fun e w' => e = .returned (.tuple #[.int .i64 (thrN o a b h (o % 6).toNat).1, .int .i64 (thrN o a b h (o % 6).toNat).2]) ∧ Below w.heap.size w w' := by
  have hbd := thr_bd o a b h hg h0 h1
  have hb6 : 0 ≤ o % 6 ∧ o % 6 < 6 := by omega
  obtain ⟨hb6, hb7⟩ := hb6
  obtain ⟨g1, g2, g3, g4⟩ := hg
  have w1 : IntKind.i64.wrap (3 * a) = 3 * a := by rw [IntKind.wrap_i64]; omega
  have w2 : IntKind.i64.wrap (3 * a + 1) = 3 * a + 1 := by rw [IntKind.wrap_i64]; omega
  have w3 : IntKind.i64.wrap (3 * a + 1 + h) = 3 * a + 1 + h := by rw [IntKind.wrap_i64]; omega
  have w4 : IntKind.i64.wrap (3 * b) = 3 * b := by rw [IntKind.wrap_i64]; omega
  have w5 : IntKind.i64.wrap (3 * b + 1) = 3 * b + 1 := by rw [IntKind.wrap_i64]; omega
  have w6 : IntKind.i64.wrap (3 * b + 1 + h) = 3 * b + 1 + h := by rw [IntKind.wrap_i64]; omega
  have B := Aside0.mk hbd
  clear hbd
  by_cases h6 : o < 6
  all_goals
    go_enter Tryd.func91, Tryd.ntmps91
    go_wp2_with fail
    go_quiet (fail)
    go_wp2
    go_loopw [6, 7, 30] (fun x y i wr => ∃ k : Nat, k ≤ 6 ∧ (k : Int) ≤ o % 6 ∧ i = .int .i64 k ∧ x = .int .i64 (thrN o a b h k).1 ∧ y = .int .i64 (thrN o a b h k).2 ∧ Below w.heap.size w wr) (fun _ _ i _ => 6 - (intOf i).toNat)
    case atStart => exact ⟨0, by omega, by omega, rfl, by simp only [thrN, thr0]; split <;> first | rfl | omega, by simp only [thrN, thr0]; split <;> first | rfl | omega, pw_below_drewN (below_alloc (Below.refl _ _) _) _⟩
    case round =>
      obtain ⟨k, hk, hk', rfl, rfl, rfl, hB⟩ := hrel
      obtain ⟨⟨b1, b2⟩, ⟨b3, b4⟩⟩ := B.out k hk
      have HB := Aside0.mk hB
      clear hB
      obtain ⟨x, hx⟩ : ∃ x, x = (thrN o a b h k).1 := ⟨_, rfl⟩
      obtain ⟨y, hy⟩ : ∃ y, y = (thrN o a b h k).2 := ⟨_, rfl⟩
      rw [← hx] at b1 b2 ⊢
      rw [← hy] at b3 b4 ⊢
      have XY := Aside0.mk (And.intro hx hy)
      clear hx hy
      by_cases hlt : (k : Int) < o % 6
      · go_wp2
        go_roundw
        case rel => exact ⟨k + 1, by omega, by omega, by go_num, by rw [XY.out.2]; rfl, by rw [XY.out.1, XY.out.2]; rfl, HB.out⟩
        case measure => simp [intOf]; omega
      · have hk2 : k = (o % 6).toNat := by omega
        go_wp2
        exact bodyPost_ret (v := .tuple #[.int .i64 x, .int .i64 y]) (by simp [results, Tryd.results91, go_sem]) rfl ⟨by rw [← hk2, ← XY.out.1, ← XY.out.2], HB.out⟩

theorem opgood_any (o : Int) (w : World) : Calls Tryd.prog 44 #[.int .i64 o] w fun e w' => e = .returned (.bool (decide (0 ≤ o ∧ o < 12))) ∧ w' = w := by
  by_cases h : 0 ≤ o ∧ o < 12
  · rw [decide_eq_true h]
    obtain ⟨h1, h2⟩ := h
    go_enter Tryd.func44, Tryd.ntmps44
    go_wp2
    go_ret
    exact ⟨rfl, rfl⟩
  · rw [decide_eq_false h]
    go_enter Tryd.func44, Tryd.ntmps44
    go_wp2
    all_goals (first | (exfalso; omega) | (go_ret; exact ⟨by simp; try omega, rfl⟩))

/-- where an operator brings a triangle -/
def onT (o a b h : Int) : CL0 := ⟨⟨(thrN o a b h (o % 6).toNat).1 / 3, (thrN o a b h (o % 6).toNat).2 / 3⟩, (thrN o a b h (o % 6).toNat).1 % 3 - 1⟩

set_option maxRecDepth 100000 in
set_option maxHeartbeats 2000000 in
theorem onT_any (l o a b h : Int) (w : World) (hl : 2 ≤ l) (hl' : l ≤ 3) (ho : 0 ≤ o) (ho' : o < 12) (hg : goodP a b) (h0 : 0 ≤ h) (h1 : h ≤ 1) :
    Calls Tryd.prog 56 #[.int .i64 l, .int .i64 o, .agg #[.int .i64 a, .int .i64 b, .int .i64 h]] w fun e w' => (if goodP (onT o a b h).f0.f0 (onT o a b h).f0.f1 then e = .returned (.tuple #[.agg #[.int .i64 (onT o a b h).f0.f0, .int .i64 (onT o a b h).f0.f1, .int .i64 (onT o a b h).f1], .nilIface]) else e = .returned (.tuple #[.agg #[.int .i64 0, .int .i64 0, .int .i64 0], errW (some 6)])) ∧ Below w.heap.size w w' := by
  have hc : checkR l a b h = none := by
    unfold checkR
    rw [if_pos ⟨by omega, hl'⟩, if_neg ?_, if_pos hg]
    rw [if_neg (by omega)]
    omega
  have hck := fun W => check_any l a b h W
  simp only [hc, errW_none] at hck
  have hth := fun W => thirds_any o a b h W ho ho' hg h0 h1
  have hbd := thr_bd o a b h hg h0 h1 (o % 6).toNat (by omega)
  have hmd := thr_mod o a b h h0 h1 (o % 6).toNat
  unfold onT
  obtain ⟨x, hx⟩ : ∃ x, x = (thrN o a b h (o % 6).toNat).1 := ⟨_, rfl⟩
  obtain ⟨y, hy⟩ : ∃ y, y = (thrN o a b h (o % 6).toNat).2 := ⟨_, rfl⟩
  simp only [← hx, ← hy] at hth hbd hmd ⊢
  clear hx hy hc hg
  obtain ⟨⟨x1, x2⟩, ⟨y1, y2⟩⟩ := hbd
  obtain ⟨hxy, hm12⟩ := hmd
  have hmx : (x.tmod 3 + 3).tmod 3 = x % 3 := by
    rcases Int.le_total 0 x with hp | hp
    · rw [Int.tmod_eq_emod_of_nonneg hp, Int.tmod_eq_emod_of_nonneg (by omega)]; omega
    · have e : x.tmod 3 = -((-x).tmod 3) := by rw [Int.neg_tmod, Int.neg_neg]
      rw [e, Int.tmod_eq_emod_of_nonneg (show 0 ≤ -x by omega), Int.tmod_eq_emod_of_nonneg (by omega)]; omega
  have hbx := tmod_range x 3 (by omega)
  obtain ⟨hbx1, hbx2⟩ := hbx
  have hdiv : ∀ z m : Int, z % 3 = m → (z - 1 - (m - 1)).tdiv 3 = z / 3 := fun z m hz => by
    have e : z - 1 - (m - 1) = 3 * (z / 3) := by omega
    rw [e, Int.mul_tdiv_cancel_left _ (by omega)]
  have hdx := hdiv x (x % 3) rfl
  have hdy := hdiv y (x % 3) hxy.symm
  have hgd := fun W => good_any (x / 3) (y / 3) W
  have hog := fun W => opgood_any o W
  simp only [decide_eq_true (And.intro ho ho')] at hog
  by_cases hgd2 : goodP (x / 3) (y / 3)
  all_goals
    simp only [hgd2, ↓reduceIte, decide_true, decide_false] at hgd ⊢
    go_enter Tryd.func56, Tryd.ntmps56
    go_wp2_with fail
    obtain ⟨w2, hw2, hcc, _, hsz, hB2⟩ := two_new w #[.int .i64 a, .int .i64 b, .int .i64 h] #[.int .i64 0, .int .i64 0, .int .i64 0] 65 65
    have hz0 : w.heap.size < w2.heap.size := by omega
    have hrb : w2.heap[w.heap.size + 1]? = some (.cells #[.int .i64 0, .int .i64 0, .int .i64 0] 65 (0, 0)) := by
      rw [hw2]
      have := blk_new (w.alloc (.cells #[.int .i64 a, .int .i64 b, .int .i64 h] 65)) (.cells #[.int .i64 0, .int .i64 0, .int .i64 0] 65 (0, 0))
      simpa using this
    rw [← hw2]
    clear hw2
    have d0 : w2.cell? ⟨w.heap.size, 0, none⟩ = some (.int .i64 a) := hcc 0 _ rfl
    have d1 : w2.cell? ⟨w.heap.size, 1, none⟩ = some (.int .i64 b) := hcc 1 _ rfl
    have d2 : w2.cell? ⟨w.heap.size, 2, none⟩ = some (.int .i64 h) := hcc 2 _ rfl
    have HB2 := Aside0.mk hB2
    have RB := Aside0.mk hrb
    clear hcc hB2 hrb
    go_wp2_with (first
      | (go_at_call 81; refine (hck _).mono ?_; rintro e w3 ⟨rfl, hb3⟩
         have d0 := pw_cell_below hb3 d0
         have d1 := pw_cell_below hb3 d1
         have d2 := pw_cell_below hb3 d2
         have HB3 := Aside0.mk (hb3))
      | (go_at_call 44; refine (hog _).mono ?_; rintro e w3' ⟨rfl, rfl⟩)
      | (go_at_call 91; refine (hth _).mono ?_; rintro e w4 ⟨rfl, hb4⟩
         have hb24 := HB3.out.trans (hb4.mono HB3.out.size)
         have HB4 := Aside0.mk hb24
         have hz4 := hb24.size
         clear hb4 hb24)
      | (go_at_call 92; refine (hgd _).mono ?_; rintro e w5 ⟨rfl, hb5⟩
         have hb25 := (below_alloc2 HB4.out hz4 _).trans (hb5.mono (by simp; omega))
         have hr5 := blk_below RB.out hb25
         have q0 := blk_cell hr5 0
         have q1 := blk_cell hr5 1
         have q2 := blk_cell hr5 2
         have q3 := blk_frozen hr5
         have HB5 := Aside0.mk hb25
         have hl5 : w4.cell? ⟨0, 0, none⟩ = w4.cell? ⟨0, 0, none⟩ := rfl
         have hcl := fun (p : Addr) hp => hb5.cell (p := p) hp
         have R5 := Aside0.mk hr5
         clear hb5 hl5 hb25 hr5))
  · have hr := blk_set (blk_set (blk_set R5.out 0 (.int .i64 (x / 3))) 1 (.int .i64 (y / 3))) 2 (.int .i64 (y % 3 - 1))
    refine bodyPost_ret (results_ct rfl _ _ (w.heap.size + 1) 65 #[.int .i64 (x / 3), .int .i64 (y / 3), .int .i64 (y % 3 - 1)] (0, 0) _ rfl hr Tryd.underlying65 rfl (by kernel_rfl)) rfl ⟨by rw [hxy]; rfl, ?_⟩
    exact (Below.setCell (p := ⟨w.heap.size + 1, 2, none⟩) (Below.setCell (p := ⟨w.heap.size + 1, 1, none⟩) (Below.setCell (p := ⟨w.heap.size + 1, 0, none⟩) (HB2.out.trans (HB5.out.mono HB2.out.size)) (Nat.le_succ _) _) (Nat.le_succ _) _) (Nat.le_succ _) _)
  · have hr := blk_set (blk_set (blk_set R5.out 0 (.int .i64 0)) 1 (.int .i64 0)) 2 (.int .i64 0)
    refine bodyPost_ret (results_ct rfl _ _ (w.heap.size + 1) 65 #[.int .i64 0, .int .i64 0, .int .i64 0] (0, 0) _ rfl hr Tryd.underlying65 rfl (by kernel_rfl)) rfl ⟨rfl, ?_⟩
    exact (Below.setCell (p := ⟨w.heap.size + 1, 2, none⟩) (Below.setCell (p := ⟨w.heap.size + 1, 1, none⟩) (Below.setCell (p := ⟨w.heap.size + 1, 0, none⟩) (HB2.out.trans (HB5.out.mono HB2.out.size)) (Nat.le_succ _) _) (Nat.le_succ _) _) (Nat.le_succ _) _)
end Go.Proofs.YtaeenefdbahfoaaDoor
