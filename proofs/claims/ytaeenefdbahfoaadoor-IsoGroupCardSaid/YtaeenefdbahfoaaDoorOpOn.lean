/- (Operator).On: where an operator brings a point. -/
import Derived.Test.YtaeenefdbahfoaaDoorMatrix
import Derived.Test.YtaeenefdbahfoaaDoorOnT
namespace Go.Proofs.YtaeenefdbahfoaaDoor
open Go.RowKit Go.Proofs.YtaeenefdbahfoaaDoorW.PrintWords Go.Proofs.YtaeenefdbahfoaaDoorW.PrintLast Go.Proofs.YtaeenefdbahfoaaDoorW.PrintMore
open H
open Go.Shelf Go.RowKit Go.Lib Go.Sort

def matO (o : Int) : Int × Int × Int × Int := turns o (o % 6).toNat
/-- where an operator brings a point -/
def onP (o a b : Int) : Int × Int := ((matO o).1 * a + (matO o).2.1 * b, (matO o).2.2.1 * a + (matO o).2.2.2 * b)

theorem unit_mul (m a B : Int) (h1 : -1 ≤ m) (h2 : m ≤ 1) (h3 : -B ≤ a) (h4 : a ≤ B) : -B ≤ m * a ∧ m * a ≤ B := by
  have : m = -1 ∨ m = 0 ∨ m = 1 := by omega
  rcases this with rfl | rfl | rfl <;> omega

def opOnR (o a b : Int) : Value := if 0 ≤ o ∧ o < 12 then (if goodP a b then (if goodP (onP o a b).1 (onP o a b).2 then .tuple #[.agg #[.int .i64 (onP o a b).1, .int .i64 (onP o a b).2], .nilIface] else .tuple #[.agg #[.int .i64 0, .int .i64 0], errW (some 6)]) else .tuple #[.agg #[.int .i64 0, .int .i64 0], errW (some 6)]) else .tuple #[.agg #[.int .i64 0, .int .i64 0], errW (some 4)]

set_option linter.unusedSimpArgs false in
set_option maxRecDepth 100000 in
set_option maxHeartbeats 2000000 in
theorem opOn_any (o a b : Int) (w : World) :
    Calls Tryd.prog 90 #[.int .i64 o, .agg #[.int .i64 a, .int .i64 b]] w fun e w' => e = .returned (opOnR o a b) ∧ Below w.heap.size w w' := by
  have hog := fun W => opgood_any o W
  have hpg := fun W => good_any a b W
  have hfin : ∀ W (g : Nat) (x y : Int), w.heap.size ≤ g → W.heap[g]? = some (.cells #[.int .i64 0, .int .i64 0] 63 (0, 0)) → Below w.heap.size w W → ((W.setCell ⟨g, 0, none⟩ (.int .i64 x)).setCell ⟨g, 1, none⟩ (.int .i64 y)).heap[g]? = some (.cells #[.int .i64 x, .int .i64 y] 63 (0, 0)) ∧ Below w.heap.size w ((W.setCell ⟨g, 0, none⟩ (.int .i64 x)).setCell ⟨g, 1, none⟩ (.int .i64 y)) := fun W g x y hg hb hB =>
    ⟨blk_set (blk_set hb 0 (.int .i64 x)) 1 (.int .i64 y), Below.setCell (p := ⟨g, 1, none⟩) (Below.setCell (p := ⟨g, 0, none⟩) hB hg _) hg _⟩
  have HF := Aside0.mk hfin
  clear hfin
  unfold opOnR
  by_cases ho : 0 ≤ o ∧ o < 12
  · simp only [ho, decide_true, and_self, ↓reduceIte] at hog ⊢
    by_cases hp : goodP a b
    · simp only [hp, decide_true, ↓reduceIte] at hpg ⊢
      have hmx := fun W => matrix_any o W ho.1 ho.2
      have hb := turns_bd o (o % 6).toNat (by omega)
      change ∀ W, Calls _ _ _ W fun e w' => e = .returned (matV (matO o)) ∧ _ at hmx
      change (_ ≤ (matO o).1 ∧ (matO o).1 ≤ _) ∧ (_ ≤ (matO o).2.1 ∧ (matO o).2.1 ≤ _) ∧ (_ ≤ (matO o).2.2.1 ∧ (matO o).2.2.1 ≤ _) ∧ (_ ≤ (matO o).2.2.2 ∧ (matO o).2.2.2 ≤ _) at hb
      have hpd := fun W => good_any (onP o a b).1 (onP o a b).2 W
      obtain ⟨g1, g2, g3, g4⟩ := hp
      by_cases hq : goodP (onP o a b).1 (onP o a b).2
      all_goals
        simp only [hq, decide_true, decide_false, ↓reduceIte] at hpd ⊢
        clear hq
        simp only [onP] at hpd ⊢
        generalize matO o = m at hmx hb hpd ⊢
        obtain ⟨m0, m1, m2, m3⟩ := m
        simp only [matV] at hmx hb hpd ⊢
        obtain ⟨⟨b0, b1⟩, ⟨b2, b3⟩, ⟨b4, b5⟩, ⟨b6, b7⟩⟩ := hb
        obtain ⟨u0, u1⟩ := unit_mul m0 a 1099511627776 b0 b1 g1 g2
        obtain ⟨u2, u3⟩ := unit_mul m1 b 1099511627776 b2 b3 g3 g4
        obtain ⟨u4, u5⟩ := unit_mul m2 a 1099511627776 b4 b5 g1 g2
        obtain ⟨u6, u7⟩ := unit_mul m3 b 1099511627776 b6 b7 g3 g4
        clear b0 b1 b2 b3 b4 b5 b6 b7
        go_enter Tryd.func90, Tryd.ntmps90
        go_wp2_with fail
        obtain ⟨w2, hw2, hcc, _, hsz, hB2⟩ := two_new w #[.int .i64 a, .int .i64 b] #[.int .i64 0, .int .i64 0] 63 63
        have hz0 : w.heap.size < w2.heap.size := by omega
        have hrb : w2.heap[w.heap.size + 1]? = some (.cells #[.int .i64 0, .int .i64 0] 63 (0, 0)) := by
          rw [hw2]
          have := blk_new (w.alloc (.cells #[.int .i64 a, .int .i64 b] 63)) (.cells #[.int .i64 0, .int .i64 0] 63 (0, 0))
          simpa using this
        rw [← hw2]
        clear hw2
        have d0 : w2.cell? ⟨w.heap.size, 0, none⟩ = some (.int .i64 a) := hcc 0 _ rfl
        have d1 : w2.cell? ⟨w.heap.size, 1, none⟩ = some (.int .i64 b) := hcc 1 _ rfl
        have q0 := blk_cell hrb 0
        have q1 := blk_cell hrb 1
        have q3 := blk_frozen hrb
        have HB2 := Aside0.mk hB2
        have RB := Aside0.mk hrb
        clear hcc hB2 hrb
        go_wp2_with (first
          | (go_at_call 44; refine (hog _).mono ?_; rintro e w2' ⟨rfl, rfl⟩)
          | (go_at_call 92; (with_reducible refine (hpg _).mono ?_); rintro e w3 ⟨rfl, hb3⟩
             have hr3 := blk_below RB.out hb3
             have q0 := blk_cell hr3 0
             have q1 := blk_cell hr3 1
             have q3 := blk_frozen hr3
             have d0 := pw_cell_below hb3 d0
             have d1 := pw_cell_below hb3 d1
             have RB3 := Aside0.mk hr3
             have HB3 := Aside0.mk (HB2.out.trans (hb3.mono HB2.out.size))
             clear hr3 hb3)
          | (go_at_call 107; refine (hmx _).mono ?_; rintro e w4 ⟨rfl, hb4⟩
             have hr4 := blk_below RB3.out hb4
             have d0 := pw_cell_below hb4 d0
             have d1 := pw_cell_below hb4 d1
             have hz4 : w.heap.size + 1 < w4.heap.size := blk_lt hr4
             have hz40 : w.heap.size < w4.heap.size := Nat.lt_of_succ_lt hz4
             have RB4 := Aside0.mk hr4
             have HB4 := Aside0.mk (HB3.out.trans (hb4.mono HB3.out.size))
             clear hr4 hb4)
          | (go_at_call 92; (with_reducible refine (hpd _).mono ?_); rintro e w5 ⟨rfl, hb5⟩
             have hr5 := blk_below (blk_alloc (blk_alloc RB4.out _) _) hb5
             have q0 := blk_cell hr5 0
             have q1 := blk_cell hr5 1
             have q3 := blk_frozen hr5
             have RB5 := Aside0.mk hr5
             have HB5 := Aside0.mk ((below_alloc (below_alloc HB4.out _) _).trans (hb5.mono (by simp; omega)))
             have hcl := fun (p : Addr) hp => hb5.cell (p := p) hp
             clear hr5 hb5))
      · obtain ⟨hr, hfb⟩ := HF.out w5 (w.heap.size + 1) (m0 * a + m1 * b) (m2 * a + m3 * b) (Nat.le_succ _) RB5.out HB5.out
        exact bodyPost_ret (results_ct rfl _ _ (w.heap.size + 1) 63 #[.int .i64 (m0 * a + m1 * b), .int .i64 (m2 * a + m3 * b)] (0, 0) _ rfl hr Tryd.underlying63 rfl (by kernel_rfl)) rfl ⟨rfl, hfb⟩
      · obtain ⟨hr, hfb⟩ := HF.out w5 (w.heap.size + 1) (0) (0) (Nat.le_succ _) RB5.out HB5.out
        exact bodyPost_ret (results_ct rfl _ _ (w.heap.size + 1) 63 #[.int .i64 (0), .int .i64 (0)] (0, 0) _ rfl hr Tryd.underlying63 rfl (by kernel_rfl)) rfl ⟨rfl, hfb⟩
    · simp only [hp, decide_false, ↓reduceIte, Bool.false_eq_true] at hpg ⊢
      go_enter Tryd.func90, Tryd.ntmps90
      go_wp2_with fail
      obtain ⟨w2, hw2, hcc, _, hsz, hB2⟩ := two_new w #[.int .i64 a, .int .i64 b] #[.int .i64 0, .int .i64 0] 63 63
      have hz0 : w.heap.size < w2.heap.size := by omega
      have hrb : w2.heap[w.heap.size + 1]? = some (.cells #[.int .i64 0, .int .i64 0] 63 (0, 0)) := by
        rw [hw2]
        have := blk_new (w.alloc (.cells #[.int .i64 a, .int .i64 b] 63)) (.cells #[.int .i64 0, .int .i64 0] 63 (0, 0))
        simpa using this
      rw [← hw2]
      clear hw2
      have d0 : w2.cell? ⟨w.heap.size, 0, none⟩ = some (.int .i64 a) := hcc 0 _ rfl
      have d1 : w2.cell? ⟨w.heap.size, 1, none⟩ = some (.int .i64 b) := hcc 1 _ rfl
      have q0 := blk_cell hrb 0
      have q1 := blk_cell hrb 1
      have q3 := blk_frozen hrb
      have HB2 := Aside0.mk hB2
      have RB := Aside0.mk hrb
      clear hcc hB2 hrb
      go_wp2_with (first
        | (go_at_call 44; refine (hog _).mono ?_; rintro e w2' ⟨rfl, rfl⟩)
        | (go_at_call 92; (with_reducible refine (hpg _).mono ?_); rintro e w3 ⟨rfl, hb3⟩
           have hr3 := blk_below RB.out hb3
           have q0 := blk_cell hr3 0
           have q1 := blk_cell hr3 1
           have q3 := blk_frozen hr3
           have d0 := pw_cell_below hb3 d0
           have d1 := pw_cell_below hb3 d1
           have RB3 := Aside0.mk hr3
           have HB3 := Aside0.mk (HB2.out.trans (hb3.mono HB2.out.size))
           clear hr3 hb3))
      obtain ⟨hr, hfb⟩ := HF.out w3 (w.heap.size + 1) (0) (0) (Nat.le_succ _) RB3.out HB3.out
      exact bodyPost_ret (results_ct rfl _ _ (w.heap.size + 1) 63 #[.int .i64 (0), .int .i64 (0)] (0, 0) _ rfl hr Tryd.underlying63 rfl (by kernel_rfl)) rfl ⟨rfl, hfb⟩
  · simp only [ho, decide_false, ↓reduceIte, Bool.false_eq_true] at hog ⊢
    go_enter Tryd.func90, Tryd.ntmps90
    go_wp2_with fail
    obtain ⟨w2, hw2, hcc, _, hsz, hB2⟩ := two_new w #[.int .i64 a, .int .i64 b] #[.int .i64 0, .int .i64 0] 63 63
    have hz0 : w.heap.size < w2.heap.size := by omega
    have hrb : w2.heap[w.heap.size + 1]? = some (.cells #[.int .i64 0, .int .i64 0] 63 (0, 0)) := by
      rw [hw2]
      have := blk_new (w.alloc (.cells #[.int .i64 a, .int .i64 b] 63)) (.cells #[.int .i64 0, .int .i64 0] 63 (0, 0))
      simpa using this
    rw [← hw2]
    clear hw2
    have d0 : w2.cell? ⟨w.heap.size, 0, none⟩ = some (.int .i64 a) := hcc 0 _ rfl
    have d1 : w2.cell? ⟨w.heap.size, 1, none⟩ = some (.int .i64 b) := hcc 1 _ rfl
    have q0 := blk_cell hrb 0
    have q1 := blk_cell hrb 1
    have q3 := blk_frozen hrb
    have HB2 := Aside0.mk hB2
    have RB := Aside0.mk hrb
    clear hcc hB2 hrb
    go_wp2_with (first
      | (go_at_call 44; refine (hog _).mono ?_; rintro e w2' ⟨rfl, rfl⟩))
    obtain ⟨hr, hfb⟩ := HF.out w2' (w.heap.size + 1) (0) (0) (Nat.le_succ _) RB.out HB2.out
    exact bodyPost_ret (results_ct rfl _ _ (w.heap.size + 1) 63 #[.int .i64 (0), .int .i64 (0)] (0, 0) _ rfl hr Tryd.underlying63 rfl (by kernel_rfl)) rfl ⟨rfl, hfb⟩
end Go.Proofs.YtaeenefdbahfoaaDoor
