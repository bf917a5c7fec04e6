/- Parts of the proof of IsoWitness, merged out of our texts by wip/tools/pack.py. -/
import Derived.Test.YtaeenefdbahfoaaDoorKIsoWitness1
import Derived.BigRegion
import Derived.Deep.RegionHeld3
namespace Go.Proofs.YtaeenefdbahfoaaDoor
set_option linter.unusedSimpArgs false
set_option linter.unusedVariables false
set_option maxRecDepth 100000
set_option maxHeartbeats 16000000
open Go.RowKit Go.Proofs.YtaeenefdbahfoaaDoorW.PrintWords Go.Proofs.YtaeenefdbahfoaaDoorW.PrintLast Go.Proofs.YtaeenefdbahfoaaDoorW.PrintMore
open H
open Go.Shelf Go.Lib Go.Sort
def matO (o : Int) : Int × Int × Int × Int := turns o (o % 6).toNat
def onP (o a b : Int) : Int × Int := ((matO o).1 * a + (matO o).2.1 * b, (matO o).2.2.1 * a + (matO o).2.2.2 * b)
theorem unit_mul (m a B : Int) (h1 : -1 ≤ m) (h2 : m ≤ 1) (h3 : -B ≤ a) (h4 : a ≤ B) : -B ≤ m * a ∧ m * a ≤ B := by
 have : m = -1 ∨ m = 0 ∨ m = 1 := by omega
 rcases this with rfl | rfl | rfl <;> omega
def opOnR (o a b : Int) : Value := if 0 ≤ o ∧ o < 12 then (if goodP a b then (if goodP (onP o a b).1 (onP o a b).2 then .tuple #[.agg #[.int .i64 (onP o a b).1, .int .i64 (onP o a b).2], .nilIface] else .tuple #[.agg #[.int .i64 0, .int .i64 0], errW (some 6)]) else .tuple #[.agg #[.int .i64 0, .int .i64 0], errW (some 6)]) else .tuple #[.agg #[.int .i64 0, .int .i64 0], errW (some 4)]
set_option linter.unusedSimpArgs false in
theorem opOn_any (o a b : Int) (w : World) :
    Calls Tryd.prog 90 #[.int .i64 o, .agg #[.int .i64 a, .int .i64 b]] w fun e w' => e = .returned (opOnR o a b) ∧ Below w.heap.size w w' := by
 have hog := fun W => opgood_any o W
 have hpg := fun W => good_any a b W
 have hfin : ∀ W (g : Nat) (x y : Int), w.heap.size ≤ g → W.heap[g]? = some (.cells #[.int .i64 0, .int .i64 0] 63 (0, 0)) → Below w.heap.size w W → ((W.setCell ⟨g, 0, none⟩ (.int .i64 x)).setCell ⟨g, 1, none⟩ (.int .i64 y)).heap[g]? = some (.cells #[.int .i64 x, .int .i64 y] 63 (0, 0)) ∧ Below w.heap.size w ((W.setCell ⟨g, 0, none⟩ (.int .i64 x)).setCell ⟨g, 1, none⟩ (.int .i64 y)) := fun W g x y hg hb hB =>
  ⟨blk_set (blk_set hb 0 (.int .i64 x)) 1 (.int .i64 y), Below.setCell (p := ⟨g, 1, none⟩) (Below.setCell (p := ⟨g, 0, none⟩) hB hg _) hg _⟩
 have HF := Aside0.mk hfin
 clear hfin
 unfold opOnR
 by_cases ho : 0 ≤ o ∧ o < 12
 ·simp only [ho, decide_true, and_self, ↓reduceIte] at hog ⊢
  by_cases hp : goodP a b
  ·simp only [hp, decide_true, ↓reduceIte] at hpg ⊢
   have hmx := fun W => matrix_any o W ho.1 ho.2
   have hb := turns_bd o (o % 6).toNat (by omega)
   change ∀ W, Calls _ _ _ W fun e w' => e = .returned (matV (matO o)) ∧ _ at hmx
   change (_ ≤ (matO o).1 ∧ (matO o).1 ≤ _) ∧ (_ ≤ (matO o).2.1 ∧ (matO o).2.1 ≤ _) ∧ (_ ≤ (matO o).2.2.1 ∧ (matO o).2.2.1 ≤ _) ∧ (_ ≤ (matO o).2.2.2 ∧ (matO o).2.2.2 ≤ _) at hb
   have hpd := fun W => good_any (onP o a b).1 (onP o a b).2 W
   obtain ⟨g1, g2, g3, g4⟩ := hp
   by_cases hq : goodP (onP o a b).1 (onP o a b).2
   all_goals
    simp only [hq, decide_true, decide_false, ↓reduceIte] at hpd ⊢
    clear hq
    simp only [onP] at hpd ⊢
    generalize matO o = m at hmx hb hpd ⊢
    obtain ⟨m0, m1, m2, m3⟩ := m
    simp only [matV] at hmx hb hpd ⊢
    obtain ⟨⟨b0, b1⟩, ⟨b2, b3⟩, ⟨b4, b5⟩, ⟨b6, b7⟩⟩ := hb
    obtain ⟨u0, u1⟩ := unit_mul m0 a 1099511627776 b0 b1 g1 g2
    obtain ⟨u2, u3⟩ := unit_mul m1 b 1099511627776 b2 b3 g3 g4
    obtain ⟨u4, u5⟩ := unit_mul m2 a 1099511627776 b4 b5 g1 g2
    obtain ⟨u6, u7⟩ := unit_mul m3 b 1099511627776 b6 b7 g3 g4
    clear b0 b1 b2 b3 b4 b5 b6 b7
    go_enter Tryd.func90, Tryd.ntmps90
    go_wp2_with fail
    obtain ⟨w2, hw2, hcc, _, hsz, hB2⟩ := two_new w #[.int .i64 a, .int .i64 b] #[.int .i64 0, .int .i64 0] 63 63
    have hz0 : w.heap.size < w2.heap.size := by omega
    have hrb : w2.heap[w.heap.size + 1]? = some (.cells #[.int .i64 0, .int .i64 0] 63 (0, 0)) := by
     rw [hw2]
     have := blk_new (w.alloc (.cells #[.int .i64 a, .int .i64 b] 63)) (.cells #[.int .i64 0, .int .i64 0] 63 (0, 0))
     simpa using this
    rw [← hw2]
    clear hw2
    have d0 : w2.cell? ⟨w.heap.size, 0, none⟩ = some (.int .i64 a) := hcc 0 _ rfl
    have d1 : w2.cell? ⟨w.heap.size, 1, none⟩ = some (.int .i64 b) := hcc 1 _ rfl
    have q0 := blk_cell hrb 0
    have q1 := blk_cell hrb 1
    have q3 := blk_frozen hrb
    have HB2 := Aside0.mk hB2
    have RB := Aside0.mk hrb
    clear hcc hB2 hrb
    go_wp2_with (first
     | (go_at_call 44; refine (hog _).mono ?_; rintro e w2' ⟨rfl, rfl⟩)
     | (go_at_call 92; (with_reducible refine (hpg _).mono ?_); rintro e w3 ⟨rfl, hb3⟩
        have hr3 := blk_below RB.out hb3
        have q0 := blk_cell hr3 0
        have q1 := blk_cell hr3 1
        have q3 := blk_frozen hr3
        have d0 := pw_cell_below hb3 d0
        have d1 := pw_cell_below hb3 d1
        have RB3 := Aside0.mk hr3
        have HB3 := Aside0.mk (HB2.out.trans (hb3.mono HB2.out.size))
        clear hr3 hb3)
     | (go_at_call 107; refine (hmx _).mono ?_; rintro e w4 ⟨rfl, hb4⟩
        have hr4 := blk_below RB3.out hb4
        have d0 := pw_cell_below hb4 d0
        have d1 := pw_cell_below hb4 d1
        have hz4 : w.heap.size + 1 < w4.heap.size := blk_lt hr4
        have hz40 : w.heap.size < w4.heap.size := Nat.lt_of_succ_lt hz4
        have RB4 := Aside0.mk hr4
        have HB4 := Aside0.mk (HB3.out.trans (hb4.mono HB3.out.size))
        clear hr4 hb4)
     | (go_at_call 92; (with_reducible refine (hpd _).mono ?_); rintro e w5 ⟨rfl, hb5⟩
        have hr5 := blk_below (blk_alloc (blk_alloc RB4.out _) _) hb5
        have q0 := blk_cell hr5 0
        have q1 := blk_cell hr5 1
        have q3 := blk_frozen hr5
        have RB5 := Aside0.mk hr5
        have HB5 := Aside0.mk ((below_alloc (below_alloc HB4.out _) _).trans (hb5.mono (by simp; omega)))
        have hcl := fun (p : Addr) hp => hb5.cell (p := p) hp
        clear hr5 hb5))
   ·obtain ⟨hr, hfb⟩ := HF.out w5 (w.heap.size + 1) (m0 * a + m1 * b) (m2 * a + m3 * b) (Nat.le_succ _) RB5.out HB5.out
    exact bodyPost_ret (results_ct rfl _ _ (w.heap.size + 1) 63 #[.int .i64 (m0 * a + m1 * b), .int .i64 (m2 * a + m3 * b)] (0, 0) _ rfl hr Tryd.underlying63 rfl (by kernel_rfl)) rfl ⟨rfl, hfb⟩
   ·obtain ⟨hr, hfb⟩ := HF.out w5 (w.heap.size + 1) (0) (0) (Nat.le_succ _) RB5.out HB5.out
    exact bodyPost_ret (results_ct rfl _ _ (w.heap.size + 1) 63 #[.int .i64 (0), .int .i64 (0)] (0, 0) _ rfl hr Tryd.underlying63 rfl (by kernel_rfl)) rfl ⟨rfl, hfb⟩
  ·simp only [hp, decide_false, ↓reduceIte, Bool.false_eq_true] at hpg ⊢
   go_enter Tryd.func90, Tryd.ntmps90
   go_wp2_with fail
   obtain ⟨w2, hw2, hcc, _, hsz, hB2⟩ := two_new w #[.int .i64 a, .int .i64 b] #[.int .i64 0, .int .i64 0] 63 63
   have hz0 : w.heap.size < w2.heap.size := by omega
   have hrb : w2.heap[w.heap.size + 1]? = some (.cells #[.int .i64 0, .int .i64 0] 63 (0, 0)) := by
    rw [hw2]
    have := blk_new (w.alloc (.cells #[.int .i64 a, .int .i64 b] 63)) (.cells #[.int .i64 0, .int .i64 0] 63 (0, 0))
    simpa using this
   rw [← hw2]
   clear hw2
   have d0 : w2.cell? ⟨w.heap.size, 0, none⟩ = some (.int .i64 a) := hcc 0 _ rfl
   have d1 : w2.cell? ⟨w.heap.size, 1, none⟩ = some (.int .i64 b) := hcc 1 _ rfl
   have q0 := blk_cell hrb 0
   have q1 := blk_cell hrb 1
   have q3 := blk_frozen hrb
   have HB2 := Aside0.mk hB2
   have RB := Aside0.mk hrb
   clear hcc hB2 hrb
   go_wp2_with (first
    | (go_at_call 44; refine (hog _).mono ?_; rintro e w2' ⟨rfl, rfl⟩)
    | (go_at_call 92; (with_reducible refine (hpg _).mono ?_); rintro e w3 ⟨rfl, hb3⟩
       have hr3 := blk_below RB.out hb3
       have q0 := blk_cell hr3 0
       have q1 := blk_cell hr3 1
       have q3 := blk_frozen hr3
       have d0 := pw_cell_below hb3 d0
       have d1 := pw_cell_below hb3 d1
       have RB3 := Aside0.mk hr3
       have HB3 := Aside0.mk (HB2.out.trans (hb3.mono HB2.out.size))
       clear hr3 hb3))
   obtain ⟨hr, hfb⟩ := HF.out w3 (w.heap.size + 1) (0) (0) (Nat.le_succ _) RB3.out HB3.out
   exact bodyPost_ret (results_ct rfl _ _ (w.heap.size + 1) 63 #[.int .i64 (0), .int .i64 (0)] (0, 0) _ rfl hr Tryd.underlying63 rfl (by kernel_rfl)) rfl ⟨rfl, hfb⟩
 ·simp only [ho, decide_false, ↓reduceIte, Bool.false_eq_true] at hog ⊢
  go_enter Tryd.func90, Tryd.ntmps90
  go_wp2_with fail
  obtain ⟨w2, hw2, hcc, _, hsz, hB2⟩ := two_new w #[.int .i64 a, .int .i64 b] #[.int .i64 0, .int .i64 0] 63 63
  have hz0 : w.heap.size < w2.heap.size := by omega
  have hrb : w2.heap[w.heap.size + 1]? = some (.cells #[.int .i64 0, .int .i64 0] 63 (0, 0)) := by
   rw [hw2]
   have := blk_new (w.alloc (.cells #[.int .i64 a, .int .i64 b] 63)) (.cells #[.int .i64 0, .int .i64 0] 63 (0, 0))
   simpa using this
  rw [← hw2]
  clear hw2
  have d0 : w2.cell? ⟨w.heap.size, 0, none⟩ = some (.int .i64 a) := hcc 0 _ rfl
  have d1 : w2.cell? ⟨w.heap.size, 1, none⟩ = some (.int .i64 b) := hcc 1 _ rfl
  have q0 := blk_cell hrb 0
  have q1 := blk_cell hrb 1
  have q3 := blk_frozen hrb
  have HB2 := Aside0.mk hB2
  have RB := Aside0.mk hrb
  clear hcc hB2 hrb
  go_wp2_with (first
   | (go_at_call 44; refine (hog _).mono ?_; rintro e w2' ⟨rfl, rfl⟩))
  obtain ⟨hr, hfb⟩ := HF.out w2' (w.heap.size + 1) (0) (0) (Nat.le_succ _) RB.out HB2.out
  exact bodyPost_ret (results_ct rfl _ _ (w.heap.size + 1) 63 #[.int .i64 (0), .int .i64 (0)] (0, 0) _ rfl hr Tryd.underlying63 rfl (by kernel_rfl)) rfl ⟨rfl, hfb⟩
theorem on_refused (l o a b h c : Int) (w : World) (hc : checkR l a b h = some c) :
    Calls Tryd.prog 56 #[.int .i64 l, .int .i64 o, .agg #[.int .i64 a, .int .i64 b, .int .i64 h]] w fun e w' => e = .returned (.tuple #[.agg #[.int .i64 0, .int .i64 0, .int .i64 0], errW (some c)]) ∧ Below w.heap.size w w' := by
 have hck := fun W => check_any l a b h W
 simp only [hc, errW_some] at hck ⊢
 go_enter Tryd.func56, Tryd.ntmps56
 go_wp2_with fail
 obtain ⟨w2, hw2, hcc, _, hsz, hB2⟩ := two_new w #[.int .i64 a, .int .i64 b, .int .i64 h] #[.int .i64 0, .int .i64 0, .int .i64 0] 65 65
 have hz0 : w.heap.size < w2.heap.size := by omega
 have hrb : w2.heap[w.heap.size + 1]? = some (.cells #[.int .i64 0, .int .i64 0, .int .i64 0] 65 (0, 0)) := by
  rw [hw2]
  have := blk_new (w.alloc (.cells #[.int .i64 a, .int .i64 b, .int .i64 h] 65)) (.cells #[.int .i64 0, .int .i64 0, .int .i64 0] 65 (0, 0))
  simpa using this
 rw [← hw2]
 clear hw2
 have d0 : w2.cell? ⟨w.heap.size, 0, none⟩ = some (.int .i64 a) := hcc 0 _ rfl
 have d1 : w2.cell? ⟨w.heap.size, 1, none⟩ = some (.int .i64 b) := hcc 1 _ rfl
 have d2 : w2.cell? ⟨w.heap.size, 2, none⟩ = some (.int .i64 h) := hcc 2 _ rfl
 have HB2 := Aside0.mk hB2
 have RB := Aside0.mk hrb
 clear hcc hB2 hrb
 go_wp2_with (first
     | (go_at_call 81; refine (hck _).mono ?_; rintro e w3 ⟨rfl, hb3⟩
        have hr3 := blk_below RB.out hb3
        have q0 := blk_cell hr3 0
        have q1 := blk_cell hr3 1
        have q2 := blk_cell hr3 2
        have q3 := blk_frozen hr3
        have d0 := pw_cell_below hb3 d0
        have d1 := pw_cell_below hb3 d1
        have d2 := pw_cell_below hb3 d2
        have RB3 := Aside0.mk hr3
        have HB3 := Aside0.mk (HB2.out.trans (hb3.mono HB2.out.size))
        clear hr3 hb3))
 have hr := blk_set (blk_set (blk_set RB3.out 0 (.int .i64 (0))) 1 (.int .i64 (0))) 2 (.int .i64 (0))
 refine bodyPost_ret (results_ct rfl _ _ (w.heap.size + 1) 65 #[.int .i64 (0), .int .i64 (0), .int .i64 (0)] (0, 0) _ rfl hr Tryd.underlying65 rfl (by kernel_rfl)) rfl ⟨rfl, ?_⟩
 exact (Below.setCell (p := ⟨w.heap.size + 1, 2, none⟩) (Below.setCell (p := ⟨w.heap.size + 1, 1, none⟩) (Below.setCell (p := ⟨w.heap.size + 1, 0, none⟩) HB3.out (Nat.le_succ _) _) (Nat.le_succ _) _) (Nat.le_succ _) _)
theorem on_badop (l o a b h : Int) (w : World) (hc : checkR l a b h = none) (ho : ¬ (0 ≤ o ∧ o < 12)) :
    Calls Tryd.prog 56 #[.int .i64 l, .int .i64 o, .agg #[.int .i64 a, .int .i64 b, .int .i64 h]] w fun e w' => e = .returned (.tuple #[.agg #[.int .i64 0, .int .i64 0, .int .i64 0], errW (some 4)]) ∧ Below w.heap.size w w' := by
 have hck := fun W => check_any l a b h W
 simp only [hc, errW_none, errW_some] at hck ⊢
 have hog := fun W => opgood_any o W
 simp only [decide_eq_false ho] at hog
 go_enter Tryd.func56, Tryd.ntmps56
 go_wp2_with fail
 obtain ⟨w2, hw2, hcc, _, hsz, hB2⟩ := two_new w #[.int .i64 a, .int .i64 b, .int .i64 h] #[.int .i64 0, .int .i64 0, .int .i64 0] 65 65
 have hz0 : w.heap.size < w2.heap.size := by omega
 have hrb : w2.heap[w.heap.size + 1]? = some (.cells #[.int .i64 0, .int .i64 0, .int .i64 0] 65 (0, 0)) := by
  rw [hw2]
  have := blk_new (w.alloc (.cells #[.int .i64 a, .int .i64 b, .int .i64 h] 65)) (.cells #[.int .i64 0, .int .i64 0, .int .i64 0] 65 (0, 0))
  simpa using this
 rw [← hw2]
 clear hw2
 have d0 : w2.cell? ⟨w.heap.size, 0, none⟩ = some (.int .i64 a) := hcc 0 _ rfl
 have d1 : w2.cell? ⟨w.heap.size, 1, none⟩ = some (.int .i64 b) := hcc 1 _ rfl
 have d2 : w2.cell? ⟨w.heap.size, 2, none⟩ = some (.int .i64 h) := hcc 2 _ rfl
 have HB2 := Aside0.mk hB2
 have RB := Aside0.mk hrb
 clear hcc hB2 hrb
 go_wp2_with (first
     | (go_at_call 81; refine (hck _).mono ?_; rintro e w3 ⟨rfl, hb3⟩
        have hr3 := blk_below RB.out hb3
        have q0 := blk_cell hr3 0
        have q1 := blk_cell hr3 1
        have q2 := blk_cell hr3 2
        have q3 := blk_frozen hr3
        have d0 := pw_cell_below hb3 d0
        have d1 := pw_cell_below hb3 d1
        have d2 := pw_cell_below hb3 d2
        have RB3 := Aside0.mk hr3
        have HB3 := Aside0.mk (HB2.out.trans (hb3.mono HB2.out.size))
        clear hr3 hb3)
     | (go_at_call 44; refine (hog _).mono ?_; rintro e w3' ⟨rfl, rfl⟩))
 have hr := blk_set (blk_set (blk_set RB3.out 0 (.int .i64 (0))) 1 (.int .i64 (0))) 2 (.int .i64 (0))
 refine bodyPost_ret (results_ct rfl _ _ (w.heap.size + 1) 65 #[.int .i64 (0), .int .i64 (0), .int .i64 (0)] (0, 0) _ rfl hr Tryd.underlying65 rfl (by kernel_rfl)) rfl ⟨rfl, ?_⟩
 exact (Below.setCell (p := ⟨w.heap.size + 1, 2, none⟩) (Below.setCell (p := ⟨w.heap.size + 1, 1, none⟩) (Below.setCell (p := ⟨w.heap.size + 1, 0, none⟩) HB3.out (Nat.le_succ _) _) (Nat.le_succ _) _) (Nat.le_succ _) _)
theorem onH_any (o a b h : Int) (hh : h = 0) (w : World) (hg : goodP a b) (ho : 0 ≤ o) (ho' : o < 12) :
    Calls Tryd.prog 56 #[.int .i64 1, .int .i64 o, .agg #[.int .i64 a, .int .i64 b, .int .i64 h]] w fun e w' => (if goodP (onP o a b).1 (onP o a b).2 then e = .returned (.tuple #[.agg #[.int .i64 (onP o a b).1, .int .i64 (onP o a b).2, .int .i64 0], .nilIface]) else e = .returned (.tuple #[.agg #[.int .i64 0, .int .i64 0, .int .i64 0], errW (some 6)])) ∧ Below w.heap.size w w' := by
 have hc : checkR 1 a b h = none := by
  unfold checkR
  rw [hh, if_pos ⟨by omega, by omega⟩, if_neg (by decide), if_pos hg]
 clear hh
 have hck := fun W => check_any 1 a b h W
 simp only [hc, errW_none, errW_some] at hck ⊢
 have hog := fun W => opgood_any o W
 simp only [decide_eq_true (And.intro ho ho')] at hog
 have hop := fun W => opOn_any o a b W
 unfold opOnR at hop
 rw [if_pos ⟨ho, ho'⟩, if_pos hg] at hop
 by_cases hq : goodP (onP o a b).1 (onP o a b).2
 all_goals
  simp only [hq, ↓reduceIte, errW_some] at hop ⊢
  clear hq
  generalize (onP o a b).1 = x at hop ⊢
  generalize (onP o a b).2 = y at hop ⊢
  go_enter Tryd.func56, Tryd.ntmps56
  go_wp2_with fail
  obtain ⟨w2, hw2, hcc, _, hsz, hB2⟩ := two_new w #[.int .i64 a, .int .i64 b, .int .i64 h] #[.int .i64 0, .int .i64 0, .int .i64 0] 65 65
  have hz0 : w.heap.size < w2.heap.size := by omega
  have hrb : w2.heap[w.heap.size + 1]? = some (.cells #[.int .i64 0, .int .i64 0, .int .i64 0] 65 (0, 0)) := by
   rw [hw2]
   have := blk_new (w.alloc (.cells #[.int .i64 a, .int .i64 b, .int .i64 h] 65)) (.cells #[.int .i64 0, .int .i64 0, .int .i64 0] 65 (0, 0))
   simpa using this
  rw [← hw2]
  clear hw2
  have d0 : w2.cell? ⟨w.heap.size, 0, none⟩ = some (.int .i64 a) := hcc 0 _ rfl
  have d1 : w2.cell? ⟨w.heap.size, 1, none⟩ = some (.int .i64 b) := hcc 1 _ rfl
  have d2 : w2.cell? ⟨w.heap.size, 2, none⟩ = some (.int .i64 h) := hcc 2 _ rfl
  have HB2 := Aside0.mk hB2
  have RB := Aside0.mk hrb
  clear hcc hB2 hrb
  go_wp2_with (first
   | (go_at_call 81; refine (hck _).mono ?_; rintro e w3 ⟨rfl, hb3⟩
      have hr3 := blk_below RB.out hb3
      have q0 := blk_cell hr3 0
      have q1 := blk_cell hr3 1
      have q2 := blk_cell hr3 2
      have q3 := blk_frozen hr3
      have d0 := pw_cell_below hb3 d0
      have d1 := pw_cell_below hb3 d1
      have d2 := pw_cell_below hb3 d2
      have RB3 := Aside0.mk hr3
      have HB3 := Aside0.mk (HB2.out.trans (hb3.mono HB2.out.size))
      clear hr3 hb3)
   | (go_at_call 44; refine (hog _).mono ?_; rintro e w3' ⟨rfl, rfl⟩)
   | (go_at_call 90; refine (hop _).mono ?_; rintro e w4 ⟨rfl, hb4⟩
      have hr4' := blk_below RB3.out hb4
      have q0 := blk_cell hr4' 0
      have q1 := blk_cell hr4' 1
      have q2 := blk_cell hr4' 2
      have q3 := blk_frozen hr4'
      have hzr : w.heap.size + 1 < w4.heap.size := blk_lt hr4'
      have RB4 := Aside0.mk hr4'
      have HB4 := Aside0.mk (HB3.out.trans (hb4.mono HB3.out.size))
      clear hb4 hr4'))
 ·have hr := blk_alloc (blk_set (blk_set (blk_set RB4.out 0 (.int .i64 (x))) 1 (.int .i64 (y))) 2 (.int .i64 (0))) (.cells #[.int .i64 x, .int .i64 y] 63)
  refine bodyPost_ret (results_ct rfl _ _ (w.heap.size + 1) 65 #[.int .i64 (x), .int .i64 (y), .int .i64 (0)] (0, 0) _ rfl hr Tryd.underlying65 rfl (by kernel_rfl)) rfl ⟨rfl, ?_⟩
  exact below_alloc (Below.setCell (p := ⟨w.heap.size + 1, 2, none⟩) (Below.setCell (p := ⟨w.heap.size + 1, 1, none⟩) (Below.setCell (p := ⟨w.heap.size + 1, 0, none⟩) HB4.out (Nat.le_succ _) _) (Nat.le_succ _) _) (Nat.le_succ _) _) _
 ·have hr := blk_alloc (blk_set (blk_set (blk_set RB4.out 0 (.int .i64 (0))) 1 (.int .i64 (0))) 2 (.int .i64 (0))) (.cells #[.int .i64 0, .int .i64 0] 63)
  refine bodyPost_ret (results_ct rfl _ _ (w.heap.size + 1) 65 #[.int .i64 (0), .int .i64 (0), .int .i64 (0)] (0, 0) _ rfl hr Tryd.underlying65 rfl (by kernel_rfl)) rfl ⟨rfl, ?_⟩
  exact below_alloc (Below.setCell (p := ⟨w.heap.size + 1, 2, none⟩) (Below.setCell (p := ⟨w.heap.size + 1, 1, none⟩) (Below.setCell (p := ⟨w.heap.size + 1, 0, none⟩) HB4.out (Nat.le_succ _) _) (Nat.le_succ _) _) (Nat.le_succ _) _) _
def onC (l o : Int) (x : CL) : CL := if l = 1 then ⟨⟨(onP o x.f0.f0 x.f0.f1).1, (onP o x.f0.f0 x.f0.f1).2⟩, 0⟩ else onT o x.f0.f0 x.f0.f1 x.f1
def onR (l o : Int) (x : CL) : CL × Option Int :=
 match checkR l x.f0.f0 x.f0.f1 x.f1 with
 | some c => (mk 0 0 0, some c)
 | none => if 0 ≤ o ∧ o < 12 then (if goodP (onC l o x).f0.f0 (onC l o x).f0.f1 then (onC l o x, none) else (mk 0 0 0, some 6)) else (mk 0 0 0, some 4)
theorem on_any (l o : Int) (x : CL) (w : World) :
    Calls Tryd.prog 56 #[.int .i64 l, .int .i64 o, .agg #[.int .i64 x.f0.f0, .int .i64 x.f0.f1, .int .i64 x.f1]] w fun e w' => e = .returned (.tuple #[.agg #[.int .i64 (onR l o x).1.f0.f0, .int .i64 (onR l o x).1.f0.f1, .int .i64 (onR l o x).1.f1], errW (onR l o x).2]) ∧ Below w.heap.size w w' := by
 unfold onR
 cases hc : checkR l x.f0.f0 x.f0.f1 x.f1 with
 | some c => exact on_refused l o _ _ _ c w hc
 | none =>
  by_cases ho : 0 ≤ o ∧ o < 12
  ·obtain ⟨q1, q2, q3, q4, q5⟩ := checkR_ok hc
   simp only [if_pos ho]
   by_cases hl : l = 1
   ·subst hl
    refine (onH_any o x.f0.f0 x.f0.f1 x.f1 (q5 rfl) w q3 ho.1 ho.2).mono ?_
    rintro e w' ⟨he, hb⟩
    refine ⟨?_, hb⟩
    simp only [onC, ↓reduceIte]
    by_cases hq : goodP (onP o x.f0.f0 x.f0.f1).1 (onP o x.f0.f0 x.f0.f1).2
    ·simp only [hq, ↓reduceIte] at he ⊢
     rw [he]; rfl
    ·simp only [hq, ↓reduceIte] at he ⊢
     rw [he]; rfl
   ·refine (onT_any l o x.f0.f0 x.f0.f1 x.f1 w (by omega) q2 ho.1 ho.2 q3 (by omega) (by omega)).mono ?_
    rintro e w' ⟨he, hb⟩
    refine ⟨?_, hb⟩
    simp only [onC, hl, ↓reduceIte]
    by_cases hq : goodP (onT o x.f0.f0 x.f0.f1 x.f1).f0.f0 (onT o x.f0.f0 x.f0.f1 x.f1).f0.f1
    ·simp only [hq, ↓reduceIte] at he ⊢
     rw [he]; rfl
    ·simp only [hq, ↓reduceIte] at he ⊢
     rw [he]; rfl
  ·simp only [if_neg ho]
   exact on_badop l o _ _ _ w hc ho
def XOn.f (l o a b h : Int) : Option (Int × Int × Int × Option Int) := some ((onR l o (mk a b h)).1.f0.f0, (onR l o (mk a b h)).1.f0.f1, (onR l o (mk a b h)).1.f1, (onR l o (mk a b h)).2)
theorem XOn.calls (a0 : Int) (a1 : Int) (a2_0 : Int) (a2_1 : Int) (a2_2 : Int) (r1 : Int) (r2 : Int) (r3 : Int) (r4 : Option Int) (w : World) (h : XOn.f a0 a1 a2_0 a2_1 a2_2 = some (r1, r2, r3, r4)) :
    Calls Tryd.prog 56 #[.int .i64 a0, .int .i64 a1, .agg #[.int .i64 a2_0, .int .i64 a2_1, .int .i64 a2_2]] w fun e w' => e = .returned (.tuple #[.agg #[.int .i64 r1, .int .i64 r2, .int .i64 r3], errW r4]) ∧ Below w.heap.size w w' := by
 simp only [XOn.f, Option.some.injEq, Prod.mk.injEq] at h
 obtain ⟨rfl, rfl, rfl, rfl⟩ := h
 exact on_any a0 a1 (mk a2_0 a2_1 a2_2) w
def rotI (p : Int × Int) : Nat → Int × Int
 | 0 => p
 | k + 1 => turnP (rotI p k)
def rotG (o : Int) (p : Int × Int) : Int × Int := rotI (if o < 6 then p else (p.2, p.1)) (o % 6).toNat
theorem twelve (o : Int) (h0 : 0 ≤ o) (h1 : o < 12) : o = 0 ∨ o = 1 ∨ o = 2 ∨ o = 3 ∨ o = 4 ∨ o = 5 ∨ o = 6 ∨ o = 7 ∨ o = 8 ∨ o = 9 ∨ o = 10 ∨ o = 11 := by omega
theorem onP_rot (o a b : Int) (h0 : 0 ≤ o) (h1 : o < 12) : onP o a b = rotG o (a, b) := by
 rcases twelve o h0 h1 with rfl | rfl | rfl | rfl | rfl | rfl | rfl | rfl | rfl | rfl | rfl | rfl <;>
  (simp only [onP, matO, rotG, Int.reduceMod, Int.reduceToNat, Int.reduceLT, ↓reduceIte, turns, turnM, mat0, rotI, turnP, Prod.mk.injEq]; omega)
theorem thr_rot (o a b h : Int) (k : Nat) : thrN o a b h k = rotI (if o < 6 then (3 * a + 1 + h, 3 * b + 1 + h) else (3 * b + 1 + h, 3 * a + 1 + h)) k := by
 induction k with
 | zero => rfl
 | succ k ih => simp only [thrN, rotI, ih]
theorem onT_rot (o a b h : Int) : onT o a b h = ⟨⟨(rotG o (3 * a + 1 + h, 3 * b + 1 + h)).1 / 3, (rotG o (3 * a + 1 + h, 3 * b + 1 + h)).2 / 3⟩, (rotG o (3 * a + 1 + h, 3 * b + 1 + h)).1 % 3 - 1⟩ := by
 unfold onT rotG
 rw [thr_rot]
def backR (o : Int) : Int := if o ≥ 6 then o else (6 - o) % 6
theorem backR_rng (o : Int) (h0 : 0 ≤ o) (h1 : o < 12) : 0 ≤ backR o ∧ backR o < 12 := by unfold backR; split <;> omega
theorem rot_back (o : Int) (p : Int × Int) (h0 : 0 ≤ o) (h1 : o < 12) : rotG (backR o) (rotG o p) = p := by
 obtain ⟨x, y⟩ := p
 rcases twelve o h0 h1 with rfl | rfl | rfl | rfl | rfl | rfl | rfl | rfl | rfl | rfl | rfl | rfl <;>
  (simp only [backR, rotG, Int.reduceMod, Int.reduceToNat, Int.reduceLT, Int.reduceSub, ge_iff_le, Int.reduceLE, ↓reduceIte, rotI, turnP, Prod.mk.injEq] <;> omega)
theorem rot_mod (o x y : Int) (h0 : 0 ≤ o) (h1 : o < 12) (hxy : x % 3 = y % 3) (h12 : x % 3 = 1 ∨ x % 3 = 2) : (rotG o (x, y)).1 % 3 = (rotG o (x, y)).2 % 3 ∧ ((rotG o (x, y)).1 % 3 = 1 ∨ (rotG o (x, y)).1 % 3 = 2) := by
 rcases twelve o h0 h1 with rfl | rfl | rfl | rfl | rfl | rfl | rfl | rfl | rfl | rfl | rfl | rfl <;>
  (simp only [rotG, Int.reduceMod, Int.reduceToNat, Int.reduceLT, ↓reduceIte, rotI, turnP]; omega)
theorem rot_bd (o x y B : Int) (h0 : 0 ≤ o) (h1 : o < 12) (hx : -B ≤ x) (hx' : x ≤ B) (hy : -B ≤ y) (hy' : y ≤ B) : (-(2 * B) ≤ (rotG o (x, y)).1 ∧ (rotG o (x, y)).1 ≤ 2 * B) ∧ (-(2 * B) ≤ (rotG o (x, y)).2 ∧ (rotG o (x, y)).2 ≤ 2 * B) := by
 rcases twelve o h0 h1 with rfl | rfl | rfl | rfl | rfl | rfl | rfl | rfl | rfl | rfl | rfl | rfl <;>
  (simp only [rotG, Int.reduceMod, Int.reduceToNat, Int.reduceLT, ↓reduceIte, rotI, turnP]; omega)
def halfOk (l : Int) (x : CL) : Prop := (x.f1 = 0 ∨ x.f1 = 1) ∧ (l = 1 → x.f1 = 0)
theorem checkR_good {l : Int} {x : CL} (h1 : 1 ≤ l) (h3 : l ≤ 3) (hh : halfOk l x) (hg : goodP x.f0.f0 x.f0.f1) : checkR l x.f0.f0 x.f0.f1 x.f1 = none := by
 unfold checkR
 obtain ⟨h4, h5⟩ := hh
 rw [if_pos ⟨h1, h3⟩, if_neg ?_, if_pos hg]
 by_cases hl : l = 1
 ·rw [if_pos hl, h5 hl]; omega
 ·rw [if_neg hl]; omega
theorem onC_half (l o : Int) (x : CL) (h0 : 0 ≤ o) (h1 : o < 12) (hh : halfOk l x) : halfOk l (onC l o x) := by
 unfold onC
 by_cases hl : l = 1
 ·rw [if_pos hl]
  exact ⟨.inl rfl, fun _ => rfl⟩
 ·rw [if_neg hl, onT_rot]
  obtain ⟨h4, _⟩ := hh
  have := rot_mod o (3 * x.f0.f0 + 1 + x.f1) (3 * x.f0.f1 + 1 + x.f1) h0 h1 (by omega) (by omega)
  refine ⟨?_, fun e => absurd e hl⟩
  simp only
  omega
theorem onC_bd (l o : Int) (x : CL) (B : Int) (h0 : 0 ≤ o) (h1 : o < 12) (hh : halfOk l x) (hx : -B ≤ x.f0.f0) (hx' : x.f0.f0 ≤ B) (hy : -B ≤ x.f0.f1) (hy' : x.f0.f1 ≤ B) : (-(2 * B + 2) ≤ (onC l o x).f0.f0 ∧ (onC l o x).f0.f0 ≤ 2 * B + 2) ∧ (-(2 * B + 2) ≤ (onC l o x).f0.f1 ∧ (onC l o x).f0.f1 ≤ 2 * B + 2) := by
 unfold onC
 by_cases hl : l = 1
 ·rw [if_pos hl, onP_rot o _ _ h0 h1]
  have := rot_bd o x.f0.f0 x.f0.f1 B h0 h1 hx hx' hy hy'
  simp only
  omega
 ·rw [if_neg hl, onT_rot]
  obtain ⟨h4, _⟩ := hh
  have := rot_bd o (3 * x.f0.f0 + 1 + x.f1) (3 * x.f0.f1 + 1 + x.f1) (3 * B + 2) h0 h1 (by omega) (by omega) (by omega) (by omega)
  simp only
  omega
theorem onC_back (l o : Int) (x : CL) (h0 : 0 ≤ o) (h1 : o < 12) (hh : halfOk l x) : onC l (backR o) (onC l o x) = x := by
 obtain ⟨b0, b1⟩ := backR_rng o h0 h1
 obtain ⟨⟨a, b⟩, h⟩ := x
 obtain ⟨h4, h5⟩ := hh
 simp only at h4 h5
 unfold onC
 by_cases hl : l = 1
 ·simp only [if_pos hl]
  rw [onP_rot o _ _ h0 h1, onP_rot (backR o) _ _ b0 b1, rot_back o (a, b) h0 h1, h5 hl]
 ·simp only [if_neg hl]
  rw [onT_rot o]
  have hm := rot_mod o (3 * a + 1 + h) (3 * b + 1 + h) h0 h1 (by omega) (by omega)
  have hb := rot_back o (3 * a + 1 + h, 3 * b + 1 + h) h0 h1
  generalize rotG o (3 * a + 1 + h, 3 * b + 1 + h) = q at hm hb
  obtain ⟨X, Y⟩ := q
  simp only at hm ⊢
  rw [onT_rot, show 3 * (X / 3) + 1 + (X % 3 - 1) = X by omega, show 3 * (Y / 3) + 1 + (X % 3 - 1) = Y by omega, hb]
  simp only
  rw [show (3 * a + 1 + h) / 3 = a by omega, show (3 * b + 1 + h) / 3 = b by omega, show (3 * a + 1 + h) % 3 - 1 = h by omega]
theorem next_out (l b0 b1 s0 s1 half n : Int) (live : Bool) (w : World) (ho : half < 0 ∨ 1 < half ∨ n < 0 ∨ 63 < n) :
    Calls Tryd.prog 58 #[.agg #[.int .i64 l, .int .u64 b0, .int .u64 b1, .int .u64 s0, .int .u64 s1], .int .i64 half, .bool live, .int .i64 n] w fun e w' => e = .returned (.bool false) ∧ Below w.heap.size w w' := by
 go_enter Tryd.func58, Tryd.ntmps58
 by_cases h1 : half < 0
 ·have d1 : decide (half < 0) = true := decide_eq_true h1
  go_wp2
  go_ret
  exact ⟨rfl, (by with_reducible repeat (first | apply below_alloc | apply pw_below_drewN | apply below_drew | refine bset ?_ _ _ (by omega) _ | exact Below.refl _ _))⟩
 ·by_cases h2 : 1 < half
  ·go_wp2
   go_ret
   exact ⟨rfl, (by with_reducible repeat (first | apply below_alloc | apply pw_below_drewN | apply below_drew | refine bset ?_ _ _ (by omega) _ | exact Below.refl _ _))⟩
  ·by_cases h3 : n < 0
   ·go_wp2
    go_ret
    exact ⟨rfl, (by with_reducible repeat (first | apply below_alloc | apply pw_below_drewN | apply below_drew | refine bset ?_ _ _ (by omega) _ | exact Below.refl _ _))⟩
   ·have h4 : 63 < n := by omega
    go_wp2
    go_ret
    exact ⟨rfl, (by with_reducible repeat (first | apply below_alloc | apply pw_below_drewN | apply below_drew | refine bset ?_ _ _ (by omega) _ | exact Below.refl _ _))⟩
def nxB (x n : Int) : Bool := Go.bits .and .u64 (x / 2 ^ n.toNat) 1 == 1
theorem next_0true (l b0 b1 s0 s1 n : Int) (w : World) (h0 : 0 ≤ n) (h1 : n ≤ 63) :
    Calls Tryd.prog 58 #[.agg #[.int .i64 l, .int .u64 b0, .int .u64 b1, .int .u64 s0, .int .u64 s1], .int .i64 0, .bool true, .int .i64 n] w fun e w' => e = .returned (.bool (nxB s0 n)) ∧ Below w.heap.size w w' := by
 have h2 : ¬ n < 0 := by omega
 have h3 : ¬ 63 < n := by omega
 go_enter Tryd.func58, Tryd.ntmps58
 go_wp2
 go_ret
 exact ⟨rfl, (by with_reducible repeat (first | apply below_alloc | apply pw_below_drewN | apply below_drew | refine bset ?_ _ _ (by omega) _ | exact Below.refl _ _))⟩
theorem next_1true (l b0 b1 s0 s1 n : Int) (w : World) (h0 : 0 ≤ n) (h1 : n ≤ 63) :
    Calls Tryd.prog 58 #[.agg #[.int .i64 l, .int .u64 b0, .int .u64 b1, .int .u64 s0, .int .u64 s1], .int .i64 1, .bool true, .int .i64 n] w fun e w' => e = .returned (.bool (nxB s1 n)) ∧ Below w.heap.size w w' := by
 have h2 : ¬ n < 0 := by omega
 have h3 : ¬ 63 < n := by omega
 go_enter Tryd.func58, Tryd.ntmps58
 go_wp2
 go_ret
 exact ⟨rfl, (by with_reducible repeat (first | apply below_alloc | apply pw_below_drewN | apply below_drew | refine bset ?_ _ _ (by omega) _ | exact Below.refl _ _))⟩
theorem next_0false (l b0 b1 s0 s1 n : Int) (w : World) (h0 : 0 ≤ n) (h1 : n ≤ 63) :
    Calls Tryd.prog 58 #[.agg #[.int .i64 l, .int .u64 b0, .int .u64 b1, .int .u64 s0, .int .u64 s1], .int .i64 0, .bool false, .int .i64 n] w fun e w' => e = .returned (.bool (nxB b0 n)) ∧ Below w.heap.size w w' := by
 have h2 : ¬ n < 0 := by omega
 have h3 : ¬ 63 < n := by omega
 go_enter Tryd.func58, Tryd.ntmps58
 go_wp2
 go_ret
 exact ⟨rfl, (by with_reducible repeat (first | apply below_alloc | apply pw_below_drewN | apply below_drew | refine bset ?_ _ _ (by omega) _ | exact Below.refl _ _))⟩
theorem next_1false (l b0 b1 s0 s1 n : Int) (w : World) (h0 : 0 ≤ n) (h1 : n ≤ 63) :
    Calls Tryd.prog 58 #[.agg #[.int .i64 l, .int .u64 b0, .int .u64 b1, .int .u64 s0, .int .u64 s1], .int .i64 1, .bool false, .int .i64 n] w fun e w' => e = .returned (.bool (nxB b1 n)) ∧ Below w.heap.size w w' := by
 have h2 : ¬ n < 0 := by omega
 have h3 : ¬ 63 < n := by omega
 go_enter Tryd.func58, Tryd.ntmps58
 go_wp2
 go_ret
 exact ⟨rfl, (by with_reducible repeat (first | apply below_alloc | apply pw_below_drewN | apply below_drew | refine bset ?_ _ _ (by omega) _ | exact Below.refl _ _))⟩
def XNext.f (_l b0 b1 s0 s1 half : Int) (live : Bool) (n : Int) : Option Bool := some (if half < 0 ∨ 1 < half ∨ n < 0 ∨ 63 < n then false else nxB (if live = true then (if half = 0 then s0 else s1) else (if half = 0 then b0 else b1)) n)
theorem XNext.calls (a0_0 : Int) (a0_1 : Int) (a0_2 : Int) (a0_3 : Int) (a0_4 : Int) (a1 : Int) (a2 : Bool) (a3 : Int) (r : Bool) (w : World) (h : XNext.f a0_0 a0_1 a0_2 a0_3 a0_4 a1 a2 a3 = some r) :
    Calls Tryd.prog 58 #[.agg #[.int .i64 a0_0, .int .u64 a0_1, .int .u64 a0_2, .int .u64 a0_3, .int .u64 a0_4], .int .i64 a1, .bool a2, .int .i64 a3] w fun e w' => e = .returned (.bool r) ∧ Below w.heap.size w w' := by
 unfold XNext.f at h
 obtain rfl := Option.some.inj h
 by_cases ho : a1 < 0 ∨ 1 < a1 ∨ a3 < 0 ∨ 63 < a3
 ·rw [if_pos ho]
  exact next_out _ _ _ _ _ _ _ _ w ho
 ·rw [if_neg ho]
  have h1 : a1 = 0 ∨ a1 = 1 := by omega
  rcases h1 with rfl | rfl
  ·cases a2
   ·exact next_0false _ _ _ _ _ _ w (by omega) (by omega)
   ·exact next_0true _ _ _ _ _ _ w (by omega) (by omega)
  ·cases a2
   ·exact next_1false _ _ _ _ _ _ w (by omega) (by omega)
   ·exact next_1true _ _ _ _ _ _ w (by omega) (by omega)
namespace H
attribute [local go_sem] max2_int min2_int max_two min_two max_three min_three max_four min_four
theorem eqA60 (d : Nat) (w : World) (x0 y0 : Int) (x1 y1 : Int) (x2 y2 : Int) :
    (Op.equalIn (d + 2) 60 (.agg #[.int .i64 x0, .int .i64 x1, .int .i64 x2]) (.agg #[.int .i64 y0, .int .i64 y1, .int .i64 y2])).run Tryd.prog w = .ok (x0 == y0 && (x1 == y1 && (x2 == y2))) w := by
  refine eqA_of Tryd.underlying60 (by kernel_rfl) ?_
  refine eqf_cons (by rfl) (by go_simp; rfl) (by go_simp; rfl) (by go_simp) ?_
  refine eqf_cons (by rfl) (by go_simp; rfl) (by go_simp; rfl) (by go_simp) ?_
  exact eqf_last (by rfl) (by go_simp; rfl) (by go_simp; rfl) (by go_simp)
theorem eqA63 (d : Nat) (w : World) (x0 y0 : Int) (x1 y1 : Int) :
    (Op.equalIn (d + 2) 63 (.agg #[.int .i64 x0, .int .i64 x1]) (.agg #[.int .i64 y0, .int .i64 y1])).run Tryd.prog w = .ok (x0 == y0 && (x1 == y1)) w := by
  refine eqA_of Tryd.underlying63 (by kernel_rfl) ?_
  refine eqf_cons (by rfl) (by go_simp; rfl) (by go_simp; rfl) (by go_simp) ?_
  exact eqf_last (by rfl) (by go_simp; rfl) (by go_simp; rfl) (by go_simp)
theorem eqA65 (d : Nat) (w : World) (x0 y0 : Int) (x1 y1 : Int) (x2 y2 : Int) :
    (Op.equalIn (d + 3) 65 (.agg #[.int .i64 x0, .int .i64 x1, .int .i64 x2]) (.agg #[.int .i64 y0, .int .i64 y1, .int .i64 y2])).run Tryd.prog w = .ok ((x0 == y0 && (x1 == y1)) && (x2 == y2)) w := by
  refine eqA_of Tryd.underlying65 (by kernel_rfl) ?_
  refine eqf_cons (by rfl) (by go_simp) (by go_simp) (eqA63 (d + 0) w _ _ _ _) ?_
  exact eqf_last (by rfl) (by go_simp; rfl) (by go_simp; rfl) (by go_simp)
theorem eqA104 (d : Nat) (w : World) (x0 y0 : Int) (x1 y1 : Int) :
    (Op.equalIn (d + 2) 104 (.agg #[.int .i64 x0, .int .u8 x1]) (.agg #[.int .i64 y0, .int .u8 y1])).run Tryd.prog w = .ok (x0 == y0 && (x1 == y1)) w := by
  refine eqA_of Tryd.underlying104 (by kernel_rfl) ?_
  refine eqf_cons (by rfl) (by go_simp; rfl) (by go_simp; rfl) (by go_simp) ?_
  exact eqf_last (by rfl) (by go_simp; rfl) (by go_simp; rfl) (by go_simp)
end H
namespace H
attribute [local go_sem] max2_int min2_int max_two min_two max_three min_three max_four min_four
attribute [local go_sem high] eqA63
def table_most.f (a0 : Int) : Option (Int) := if a0 = 1 then (some 63) else (if a0 = 2 then (some 3) else (some 12))
theorem table_most.calls (a0 : Int) (r : Int) (w : World) (h : table_most.f a0 = some r) :
  Calls Tryd.prog 86 #[.int .i64 a0] w fun e w' => e = .returned (.int .i64 r) ∧ Drawn0 w w' := by
 have H : (if a0 = 1 then (some 63) else (if a0 = 2 then (some 3) else (some 12))) = some r := h
 clear h
 by_cases c2 : a0 = 1
 ·
  rw [if_pos c2] at H
  have c2b0 : (a0 == 1) = true := beq_iff_eq.mpr c2
  have c2b1 : (a0 != 1) = false := bne_eq_false_iff_eq.mpr c2
  clear c2
  obtain rfl := Option.some.inj H
  go_enter Tryd.func86, Tryd.ntmps86
  go_wp2
  go_ret
  exact ⟨by first | rfl | (simp; done) | (simp [*]; done), by repeat (first | exact Drawn0.refl _ | apply Drawn0.step)⟩
 rw [if_neg c2] at H
 have c2b0 : (a0 == 1) = false := beq_eq_false_iff_ne.mpr c2
 have c2b1 : (a0 != 1) = true := bne_iff_ne.mpr c2
 by_cases c3 : a0 = 2
 rotate_left
 ·
  rw [if_neg c3] at H
  have c3b0 : (a0 == 2) = false := beq_eq_false_iff_ne.mpr c3
  have c3b1 : (a0 != 2) = true := bne_iff_ne.mpr c3
  obtain rfl := Option.some.inj H
  go_enter Tryd.func86, Tryd.ntmps86
  go_wp2
  go_ret
  exact ⟨by first | rfl | (simp; done) | (simp [*]; done), by repeat (first | exact Drawn0.refl _ | apply Drawn0.step)⟩
 rw [if_pos c3] at H
 have c3b0 : (a0 == 2) = true := beq_iff_eq.mpr c3
 have c3b1 : (a0 != 2) = false := bne_eq_false_iff_eq.mpr c3
 clear c3
 obtain rfl := Option.some.inj H
 go_enter Tryd.func86, Tryd.ntmps86
 go_wp2
 go_ret
 exact ⟨by first | rfl | (simp; done) | (simp [*]; done), by repeat (first | exact Drawn0.refl _ | apply Drawn0.step)⟩
def axis_Point.l0 : Nat → List (S63) → Int → Int → Int → Int → Option (Int)
 | 0, _, _, _, _, _ => none
 | k + 1, x0, x7, x8, x105000, x105001 => if x8 < x7 then (if 0 ≤ x8 then (if x8 < (x0.length : Int) then (if (x105000 == ((rd_T63 x0 x8).f0) && (x105001 == ((rd_T63 x0 x8).f1))) = true then (some x8) else (axis_Point.l0 k x0 x7 (wrap64 (x8 + 1)) x105000 x105001)) else (none)) else (none)) else (some (-1))
def axis_Point.f (k : Nat) (l0 : List (S63)) (a1_0 : Int) (a1_1 : Int) : Option (Int) := axis_Point.l0 k l0 (l0.length : Int) 0 a1_0 a1_1
theorem axis_Point.calls (k : Nat) (A0 : Option Addr) (c0 : Nat) (l0 : List (S63)) (a1_0 : Int) (a1_1 : Int) (r : Int) (w : World) (hr0 : Kd.C k63 w A0 l0.length l0) (hc0 : l0.length ≤ c0) (h : axis_Point.f k l0 a1_0 a1_1 = some r) :
  Calls Tryd.prog 93 #[.slice A0 l0.length c0, .agg #[.int .i64 a1_0, .int .i64 a1_1]] w fun e w' => e = .returned (.int .i64 r) ∧ Below w.heap.size w w' := by
 have hu63 := Tryd.underlying63
 have HR0 := Aside0.mk hr0
 have HC0 := Aside0.mk hc0
 clear hr0 hc0
 have HB := Aside0.mk (Below.refl w.heap.size w)
 have H : (axis_Point.l0 k l0 (l0.length : Int) 0 a1_0 a1_1) = some r := h
 clear h
 have H' := Aside0.mk H
 clear H
 go_enter Tryd.func93, Tryd.ntmps93
 go_wp2_with (first | ((with_reducible refine gate_dst (N := 3) rfl ?_); refine bx_ 3 #[.int .i64 a1_0, .int .i64 a1_1] 63 ?_; intro gb104 hg w3 hbox hb; have BK104 := Aside0.mk (hbox); have GW104 := Aside0.mk ((by rw [hg]; exact (below_size hb_) : w.heap.size ≤ gb104)); have GE104 := GW104; replace HB := Aside0.mk (below_step hb_ hb); clear hb hbox hg))
 repeat (go_quiet (first | ((with_reducible refine gate_dst (N := 3) rfl ?_); refine bx_ 3 #[.int .i64 a1_0, .int .i64 a1_1] 63 ?_; intro gb104 hg w3 hbox hb; have BK104 := Aside0.mk (hbox); have GW104 := Aside0.mk ((by rw [hg]; exact (below_size hb_) : w.heap.size ≤ gb104)); have GE104 := GW104; replace HB := Aside0.mk (below_step hb_ hb); clear hb hbox hg)); try go_wp2_with (first | ((with_reducible refine gate_dst (N := 3) rfl ?_); refine bx_ 3 #[.int .i64 a1_0, .int .i64 a1_1] 63 ?_; intro gb104 hg w3 hbox hb; have BK104 := Aside0.mk (hbox); have GW104 := Aside0.mk ((by rw [hg]; exact (below_size hb_) : w.heap.size ≤ gb104)); have GE104 := GW104; replace HB := Aside0.mk (below_step hb_ hb); clear hb hbox hg)))
 go_loopg [8] k (fun kq v8 w' => ∃ (x8_1 : Int), v8 = .int .i64 x8_1 ∧ Aside0 (axis_Point.l0 kq l0 (l0.length : Int) x8_1 a1_0 a1_1 = some r) ∧ Aside0 (kq ≤ k) ∧ Aside0 (w'.heap[gb104]? = some (.cells #[.int .i64 a1_0, .int .i64 a1_1] 63 (0, 0))) ∧ Aside0 (Below w.heap.size w w'))
 case atStart => exact ⟨(0), rs_, H', ⟨Nat.le_refl _⟩, ⟨bk_ BK104.out⟩, ⟨by repeat (first | (with_reducible first | exact HB.out | apply ba_ | apply bn_ | apply bd_ | refine below_set ?_ GE104.out) | exact HB.out)⟩⟩
 case round =>
  clear H'
  try clear p2
  obtain ⟨x8_1, rfl, HA, HK1, BK104, HB⟩ := hrel
  cases gk with
  | zero => exact absurd HA.out (by simp [axis_Point.l0])
  | succ k1 =>
   have H := HA.out
   clear HA
   simp only [axis_Point.l0] at H
   by_cases c4 : x8_1 < (l0.length : Int)
   rotate_left
   ·
    rw [if_neg c4] at H
    have c4b0 : decide (x8_1 < (l0.length : Int)) = false := decide_eq_false c4
    clear c4
    obtain rfl := Option.some.inj H
    go_wp2
    repeat (go_quiet (fail); try go_wp2)
    go_ret
    exact ⟨er_, hg_ GE104.out⟩
   rw [if_pos c4] at H
   have c4b0 : decide (x8_1 < (l0.length : Int)) = true := decide_eq_true c4
   clear c4
   by_cases c5 : 0 ≤ x8_1
   rotate_left
   ·
    rw [if_neg c5] at H
    exact absurd H (by simp)
   rw [if_pos c5] at H
   have c5b0 : decide (0 ≤ x8_1) = true := decide_eq_true c5
   clear c5
   by_cases c6 : x8_1 < (l0.length : Int)
   rotate_left
   ·
    rw [if_neg c6] at H
    exact absurd H (by simp)
   rw [if_pos c6] at H
   have c6b0 : decide (x8_1 < (l0.length : Int)) = true := decide_eq_true c6
   clear c6
   by_cases c7 : (a1_0 == ((rd_T63 l0 x8_1).f0) && (a1_1 == ((rd_T63 l0 x8_1).f1))) = true
   ·
    rw [if_pos c7] at H
    have c7b0 : (a1_0 == ((rd_T63 l0 x8_1).f0) && (a1_1 == ((rd_T63 l0 x8_1).f1))) = true := c7
    (try (have c7b1 : decide (a1_0 = ((rd_T63 l0 x8_1).f0) && (a1_1 == ((rd_T63 l0 x8_1).f1))) = true := by simpa using c7))
    (try (have c7b2 : (a1_0 == ((rd_T63 l0 x8_1).f0) && (a1_1 == ((rd_T63 l0 x8_1).f1))) = true := by simpa using c7))
    clear c7
    obtain rfl := Option.some.inj H
    obtain ⟨hcz8_0, hcz8_1⟩ := cz2_ BK104.out
    obtain ⟨hfz8_0, hfz8_1⟩ := fz2_ BK104.out
    have p105 : 0 ≤ (x8_1 : Int) := of_decide_eq_true as_
    have q105 : x8_1 < (l0.length : Int) := of_decide_eq_true as_
    obtain ⟨ad105, e105, hx105_0, hx105_1⟩ := at_T63 HR0.out x8_1 p105 q105
    cases e105
    try replace hx105_0 := (HB.out.cell (World.block_lt_of_cell? w _ hx105_0)).trans hx105_0
    try replace hx105_1 := (HB.out.cell (World.block_lt_of_cell? w _ hx105_1)).trans hx105_1
    replace p105 := eq_true p105
    replace q105 := eq_true q105
    go_wp2
    repeat (go_quiet (fail); try go_wp2)
    go_ret
    exact ⟨er_, hg_ GE104.out⟩
   rw [if_neg c7] at H
   have c7b0 : (a1_0 == ((rd_T63 l0 x8_1).f0) && (a1_1 == ((rd_T63 l0 x8_1).f1))) = false := by simpa using c7
   (try (have c7b1 : decide (a1_0 = ((rd_T63 l0 x8_1).f0) && (a1_1 == ((rd_T63 l0 x8_1).f1))) = false := by simpa using c7))
   (try (have c7b2 : (a1_0 == ((rd_T63 l0 x8_1).f0) && (a1_1 == ((rd_T63 l0 x8_1).f1))) = false := by simpa using c7))
   (try (have c7b3 : ¬ (a1_0 = ((rd_T63 l0 x8_1).f0) && (a1_1 == ((rd_T63 l0 x8_1).f1))) := by simpa using c7))
   clear c7
   have H' := Aside0.mk H
   clear H
   obtain ⟨hcz9_0, hcz9_1⟩ := cz2_ BK104.out
   obtain ⟨hfz9_0, hfz9_1⟩ := fz2_ BK104.out
   have p105 : 0 ≤ (x8_1 : Int) := of_decide_eq_true as_
   have q105 : x8_1 < (l0.length : Int) := of_decide_eq_true as_
   obtain ⟨ad105, e105, hx105_0, hx105_1⟩ := at_T63 HR0.out x8_1 p105 q105
   cases e105
   try replace hx105_0 := (HB.out.cell (World.block_lt_of_cell? w _ hx105_0)).trans hx105_0
   try replace hx105_1 := (HB.out.cell (World.block_lt_of_cell? w _ hx105_1)).trans hx105_1
   replace p105 := eq_true p105
   replace q105 := eq_true q105
   go_wp2
   repeat (go_quiet (fail); try go_wp2)
   go_roundg k1
   case measure => have := HK1.out; omega
   case rel => exact ⟨(wrap64 (x8_1 + 1)), rs_, H', ⟨by have := HK1.out; omega⟩, ⟨bk_ BK104.out⟩, ⟨by repeat (first | (with_reducible first | exact HB.out | apply ba_ | apply bn_ | apply bd_ | refine below_set ?_ GE104.out) | exact HB.out)⟩⟩
def honeycomblaw05_Own.f (a0_0 : Int) (a0_1 : Int) (a0_2 : Int) (a0_3 : Int) (a0_4 : Int) : Option (Int × Int × Int × Int × Int) := some (a0_0, a0_1, a0_2, a0_3, a0_4)
theorem honeycomblaw05_Own.calls (a0_0 : Int) (a0_1 : Int) (a0_2 : Int) (a0_3 : Int) (a0_4 : Int) (r1 : Int) (r2 : Int) (r3 : Int) (r4 : Int) (r5 : Int) (w : World) (h : honeycomblaw05_Own.f a0_0 a0_1 a0_2 a0_3 a0_4 = some (r1, r2, r3, r4, r5)) :
  Calls Tryd.prog 46 #[.agg #[.int .i64 a0_0, .int .u64 a0_1, .int .u64 a0_2, .int .u64 a0_3, .int .u64 a0_4]] w fun e w' => e = .returned (.agg #[.int .i64 r1, .int .u64 r2, .int .u64 r3, .int .u64 r4, .int .u64 r5]) ∧ Below w.heap.size w w' := by
 have hu25 := Tryd.underlying25
 have hu29 := Tryd.underlying29
 have hu23 := Tryd.underlying23
 have HB := Aside0.mk (Below.refl w.heap.size w)
 have H : (some (a0_0, a0_1, a0_2, a0_3, a0_4)) = some (r1, r2, r3, r4, r5) := h
 clear h
 simp only [Option.some.injEq, Prod.mk.injEq] at H
 obtain ⟨rfl, rfl, rfl, rfl, rfl⟩ := H
 go_enter Tryd.func46, Tryd.ntmps46
 go_wp2_with (first | ((with_reducible refine gate_dst (N := 1) rfl ?_); refine bx_ 1 #[.int .i64 a0_0, .int .u64 a0_1, .int .u64 a0_2, .int .u64 a0_3, .int .u64 a0_4] 25 ?_; intro gb207 hg w2 hbox hb; have BK207 := Aside0.mk (hbox); have GW207 := Aside0.mk ((by rw [hg]; exact (below_size hb_) : w.heap.size ≤ gb207)); have GE207 := GW207; replace HB := Aside0.mk (below_step hb_ hb); clear hb hbox hg) | ((with_reducible refine gate_dst (N := 2) rfl ?_); refine bx_ 2 #[.int .i64 0, .int .u64 0, .int .u64 0, .int .u64 0, .int .u64 0] 29 ?_; intro gb208 hg w3 hbox hb; have BK208 := Aside0.mk (hbox); have GW208 := Aside0.mk ((by rw [hg]; exact (below_size (hg_ GE207.out)) : w.heap.size ≤ gb208)); have GE208 := GW208; have NB207_208 := Aside0.mk ((by rw [hg]; exact ne1_ BK207.out : gb207 ≠ gb208)); have NB208_207 := Aside0.mk ((by rw [hg]; exact ne2_ BK207.out : gb208 ≠ gb207)); replace BK207 := bb_ BK207.out hb; replace HB := Aside0.mk (below_step (hg_ GE207.out) hb); clear hb hbox hg; have hnb4 := NB207_208.out; have hnc4 := NB208_207.out; obtain ⟨hcz5_0, hcz5_1, hcz5_2, hcz5_3, hcz5_4⟩ := cz5_ BK207.out; obtain ⟨hfz5_0, hfz5_1, hfz5_2, hfz5_3, hfz5_4⟩ := fz5_ BK207.out; obtain ⟨hcz6_0, hcz6_1, hcz6_2, hcz6_3, hcz6_4⟩ := cz5_ BK208.out; obtain ⟨hfz6_0, hfz6_1, hfz6_2, hfz6_3, hfz6_4⟩ := fz5_ BK208.out))
 refine bodyPost_ret (results_cell_row rfl _ _ gb208 29 #[.int .i64 a0_0, .int .u64 a0_1, .int .u64 a0_2, .int .u64 a0_3, .int .u64 a0_4] (0, 0) _ rfl (by (with_reducible repeat (first | apply bN_ | apply bD_ | apply bA_)); refine blk_put (cs := #[.int .i64 a0_0, .int .u64 a0_1, .int .u64 a0_2, .int .u64 a0_3, .int .u64 0]) ?_ 4 _ rfl; (with_reducible repeat (first | apply bN_ | apply bD_ | apply bA_)); refine blk_put (cs := #[.int .i64 a0_0, .int .u64 a0_1, .int .u64 a0_2, .int .u64 0, .int .u64 0]) ?_ 3 _ rfl; (with_reducible repeat (first | apply bN_ | apply bD_ | apply bA_)); refine blk_put (cs := #[.int .i64 a0_0, .int .u64 a0_1, .int .u64 0, .int .u64 0, .int .u64 0]) ?_ 2 _ rfl; (with_reducible repeat (first | apply bN_ | apply bD_ | apply bA_)); refine blk_put (cs := #[.int .i64 a0_0, .int .u64 0, .int .u64 0, .int .u64 0, .int .u64 0]) ?_ 1 _ rfl; (with_reducible repeat (first | apply bN_ | apply bD_ | apply bA_)); refine blk_put (cs := #[.int .i64 0, .int .u64 0, .int .u64 0, .int .u64 0, .int .u64 0]) ?_ 0 _ rfl; (with_reducible repeat (first | apply bN_ | apply bD_ | apply bA_)); exact BK208.out) Tryd.underlying29 rfl (by kernel_rfl)) rfl ?_
 exact ⟨er_, hg2_ GE207.out GE208.out⟩
def bits_OnesCount64.f (a0 : Int) : Option (Int) := (fun x1 => (fun x2 => (fun x3 => (fun x4 => (fun x5 => some (Go.bits .and .i64 (wrap64 (IntKind.u64.wrap (x5 + (x5 / 4294967296)))) 127)) (IntKind.u64.wrap (x4 + (x4 / 65536)))) (IntKind.u64.wrap (x3 + (x3 / 256)))) (Go.bits .and .u64 (IntKind.u64.wrap ((x2 / 16) + x2)) 1085102592571150095)) (IntKind.u64.wrap ((Go.bits .and .u64 (x1 / 4) 3689348814741910323) + (Go.bits .and .u64 x1 3689348814741910323)))) (IntKind.u64.wrap ((Go.bits .and .u64 (a0 / 2) 6148914691236517205) + (Go.bits .and .u64 a0 6148914691236517205)))
theorem bits_OnesCount64.calls (a0 : Int) (r : Int) (w : World) (h : bits_OnesCount64.f a0 = some r) :
  Calls Tryd.prog 127 #[.int .u64 a0] w fun e w' => e = .returned (.int .i64 r) ∧ Drawn0 w w' := by
 have H := h
 unfold bits_OnesCount64.f at H
 dsimp only at H
 clear h
 obtain rfl := Option.some.inj H
 go_enter Tryd.func127, Tryd.ntmps127
 go_wp2
 go_ret
 exact ⟨by first | rfl | (simp; done) | (simp [*]; done), by repeat (first | exact Drawn0.refl _ | apply Drawn0.step)⟩
def bits_OnesCount.f (a0 : Int) : Option (Int) := (bits_OnesCount64.f a0).bind fun t279 => (some t279)
theorem bits_OnesCount.calls (a0 : Int) (r : Int) (w : World) (h : bits_OnesCount.f a0 = some r) :
  Calls Tryd.prog 108 #[.int .u64 a0] w fun e w' => e = .returned (.int .i64 r) ∧ Drawn0 w w' := by
 have H : ((bits_OnesCount64.f a0).bind fun t279 => (some t279)) = some r := h
 clear h
 replace H := Option.bind_eq_some_iff.mp H
 obtain ⟨t279, A20, H⟩ := H
 replace H : (some t279) = some r := H
 have A2 := Aside0.mk A20
 clear A20
 obtain rfl := Option.some.inj H
 go_enter Tryd.func108, Tryd.ntmps108
 go_wp2_with (first | ((with_reducible refine gate_callee (f := 127) rfl ?_); refine goesL_ (some 7) rfl rfl Tryd.func127 (by kernel_rfl) rfl #[.int .u64 a0] rfl ar_ ?_; (with_reducible refine (bits_OnesCount64.calls a0 t279 _ A2.out).mono ?_); rintro e w' ⟨rfl, ⟨nd, rfl⟩⟩; refine ⟨_, rfl, ?_⟩))
 go_ret
 exact ⟨by first | rfl | (simp; done) | (simp [*]; done), by repeat (first | exact Drawn0.refl _ | apply Drawn0.step)⟩
def table_turned.f (a0 : Int) (a1 : Int) : Option (Int) := if 0 ≤ a1 then (if 0 ≤ (wrap64 (6 - a1)) then (some (Go.bits .and .i64 (Go.bits .or .i64 (shl .i64 a0 a1) (shr .i64 a0 (wrap64 (6 - a1)))) 63)) else (none)) else (none)
theorem table_turned.calls (a0 : Int) (a1 : Int) (r : Int) (w : World) (h : table_turned.f a0 a1 = some r) :
  Calls Tryd.prog 128 #[.int .i64 a0, .int .i64 a1] w fun e w' => e = .returned (.int .i64 r) ∧ Drawn0 w w' := by
 have H : (if 0 ≤ a1 then (if 0 ≤ (wrap64 (6 - a1)) then (some (Go.bits .and .i64 (Go.bits .or .i64 (shl .i64 a0 a1) (shr .i64 a0 (wrap64 (6 - a1)))) 63)) else (none)) else (none)) = some r := h
 clear h
 by_cases c3 : 0 ≤ a1
 rotate_left
 ·
  rw [if_neg c3] at H
  exact absurd H (by simp)
 rw [if_pos c3] at H
 have c3b0 := eq_true c3
 have c3b1 : decide (0 ≤ a1) = true := decide_eq_true c3
 clear c3
 obtain ⟨ji4, hji4⟩ : ∃ j_ : Int, (shl .i64 a0 a1) = j_ := ⟨_, rfl⟩
 replace H : (if 0 ≤ (wrap64 (6 - a1)) then (some (Go.bits .and .i64 (Go.bits .or .i64 (ji4) (shr .i64 a0 (wrap64 (6 - a1)))) 63)) else (none)) = some r := by first | (rw [hji4] at H; exact H) | (simp only [hji4] at H ⊢; exact H)
 have hji4_ : (IntKind.i64.wrap (a0 * 2 ^ min a1.toNat 64)) = ji4 := hji4
 have hji4z : a1 ≤ 64 → (IntKind.i64.wrap (a0 * 2 ^ a1.toNat)) = ji4 := shl_small hji4
 have hji4y : (wrap64 (a0 * 2 ^ min a1.toNat 64)) = ji4 := (i64_w _).symm.trans hji4_
 have hji4x : a1 ≤ 64 → (wrap64 (a0 * 2 ^ a1.toNat)) = ji4 := fun h_ => (i64_w _).symm.trans (hji4z h_)
 obtain ⟨ji5, hji5⟩ : ∃ j_ : Int, (wrap64 (6 - a1)) = j_ := ⟨_, rfl⟩
 replace H : (if 0 ≤ (ji5) then (some (Go.bits .and .i64 (Go.bits .or .i64 (ji4) (shr .i64 a0 (ji5))) 63)) else (none)) = some r := by first | (rw [hji5] at H; exact H) | (simp only [hji5] at H ⊢; exact H)
 have hji5w : (IntKind.i64.wrap (6 - a1)) = ji5 := (i64_w _).trans hji5
 by_cases c6 : 0 ≤ (ji5)
 rotate_left
 ·
  rw [if_neg c6] at H
  exact absurd H (by simp)
 rw [if_pos c6] at H
 have c6b0 := eq_true c6
 have c6b1 : decide (0 ≤ (ji5)) = true := decide_eq_true c6
 clear c6
 obtain ⟨ji7, hji7⟩ : ∃ j_ : Int, (shr .i64 a0 (ji5)) = j_ := ⟨_, rfl⟩
 replace H : (some (Go.bits .and .i64 (Go.bits .or .i64 (ji4) (ji7)) 63)) = some r := by first | (rw [hji7] at H; exact H) | (simp only [hji7] at H ⊢; exact H)
 have hji7_ : (a0 / 2 ^ min (ji5).toNat 64) = ji7 := hji7
 have hji7z : (ji5) ≤ 64 → (a0 / 2 ^ (ji5).toNat) = ji7 := shr_small hji7
 obtain rfl := Option.some.inj H
 go_enter Tryd.func128, Tryd.ntmps128
 go_wp2
 repeat (go_quiet (fail); try go_wp2)
 go_ret
 exact ⟨by first | rfl | (simp; done) | (simp only [← hji4, ← hji5, ← hji7] <;> (first | rfl | simp)) | (simp [*]; done), by repeat (first | exact Drawn0.refl _ | apply Drawn0.step)⟩
end H
theorem tgood (l : Int) (w : World) : Calls Tryd.prog 80 #[.int .i64 l] w fun e w' => e = .returned (.bool (decide (1 ≤ l ∧ l ≤ 3))) ∧ Below w.heap.size w w' :=
 (lgood_any l w).mono fun _ _ h => ⟨h.1, h.2 ▸ Below.refl _ _⟩
theorem thalves (l : Int) (w : World) : Calls Tryd.prog 87 #[.int .i64 l] w fun e w' => e = .returned (.int .i64 (halvesR l)) ∧ Below w.heap.size w w' :=
 (halves_any l w).mono fun _ _ h => ⟨h.1, h.2 ▸ Below.refl _ _⟩
theorem tmost (l m : Int) (h : table_most.f l = some m) (w : World) : Calls Tryd.prog 86 #[.int .i64 l] w fun e w' => e = .returned (.int .i64 m) ∧ Below w.heap.size w w' :=
 (table_most.calls l m w h).mono fun _ _ h => ⟨h.1, h.2.below⟩
theorem tcheck_bad (l b0 b1 s0 s1 : Int) (w : World) (hl : ¬ (1 ≤ l ∧ l ≤ 3)) :
    Calls Tryd.prog 53 #[.agg #[.int .i64 l, .int .u64 b0, .int .u64 b1, .int .u64 s0, .int .u64 s1]] w fun e w' => e = .returned (errW (some 11)) ∧ Below w.heap.size w w' := by
 have hg := fun W => tgood l W
 rw [decide_eq_false hl] at hg
 go_enter Tryd.func53, Tryd.ntmps53
 go_wp2_with fail
 obtain ⟨w1, hw1, hcc, hsz, hB1⟩ := one_new w #[.int .i64 l, .int .u64 b0, .int .u64 b1, .int .u64 s0, .int .u64 s1] 29
 rw [← hw1]
 have HB1 := Aside0.mk hB1
 clear hw1 hcc
 refine (hg _).mono ?_
 rintro e w2 ⟨rfl, hb⟩
 have HB := Aside0.mk (HB1.out.trans (hb.mono (by omega)))
 clear hb hB1
 go_wp2
 go_ret
 exact ⟨rfl, HB.out⟩
def badH (b s out : Int) : Bool := (Go.bits .and .u64 b (Go.bits .or .u64 out 1) != 0) || (Go.bits .and .u64 s out != 0)
theorem tcheck_1 (b0 b1 s0 s1 : Int) (w : World) (X : Option Int) (hX : X = if (badH b0 s0 0 || badH b1 s1 18446744073709551615) = true then some 5 else none) :
    Calls Tryd.prog 53 #[.agg #[.int .i64 1, .int .u64 b0, .int .u64 b1, .int .u64 s0, .int .u64 s1]] w fun e w' => e = .returned (errW X) ∧ Below w.heap.size w w' := by
 have HX := Aside0.mk hX
 clear hX
 have hg := fun W => tgood 1 W
 have hm := fun W => tmost 1 63 rfl W
 have hh := fun W => thalves 1 W
 rw [decide_eq_true (by decide)] at hg
 rw [show halvesR 1 = 1 from rfl] at hh
 go_enter Tryd.func53, Tryd.ntmps53
 go_wp2_with fail
 obtain ⟨w1, hw1, hcc, hsz, hB1⟩ := one_new w #[.int .i64 1, .int .u64 b0, .int .u64 b1, .int .u64 s0, .int .u64 s1] 29
 rw [← hw1]
 have y0 : w1.cell? ⟨w.heap.size, 0, none⟩ = some (.int .i64 1) := hcc 0 _ rfl
 have y1 : w1.cell? ⟨w.heap.size, 1, none⟩ = some (.int .u64 b0) := hcc 1 _ rfl
 have y2 : w1.cell? ⟨w.heap.size, 2, none⟩ = some (.int .u64 b1) := hcc 2 _ rfl
 have y3 : w1.cell? ⟨w.heap.size, 3, none⟩ = some (.int .u64 s0) := hcc 3 _ rfl
 have y4 : w1.cell? ⟨w.heap.size, 4, none⟩ = some (.int .u64 s1) := hcc 4 _ rfl
 have HB1 := Aside0.mk hB1
 clear hw1 hcc hB1
 refine (hg _).mono ?_
 rintro e w2 ⟨rfl, hb⟩
 have y0 := pw_cell_below hb y0
 have y1 := pw_cell_below hb y1
 have y2 := pw_cell_below hb y2
 have y3 := pw_cell_below hb y3
 have y4 := pw_cell_below hb y4
 have HB := Aside0.mk (HB1.out.trans (hb.mono (by omega)))
 clear hb
 go_wp2_with fail
 refine (hm _).mono ?_
 rintro e w3 ⟨rfl, hb⟩
 have y0 := pw_cell_below hb y0
 have y1 := pw_cell_below hb y1
 have y2 := pw_cell_below hb y2
 have y3 := pw_cell_below hb y3
 have y4 := pw_cell_below hb y4
 have hz3 := hb.size
 have HB := Aside0.mk (HB.out.trans (hb.mono (by have := HB.out.size; omega)))
 clear hb
 go_wp2_with fail
 have Y0 := Aside0.mk y0
 have Y1 := Aside0.mk y1
 have Y2 := Aside0.mk y2
 have Y3 := Aside0.mk y3
 have Y4 := Aside0.mk y4
 clear y0 y1 y2 y3 y4
 have hzw := HB.out.size
 go_loopw [20] (fun i wr => ∃ j : Nat, j ≤ 2 ∧ i = .int .i64 j ∧ (0 < j → badH b0 s0 0 = false) ∧ (1 < j → badH b1 s1 18446744073709551615 = false) ∧ Below w3.heap.size w3 wr) (fun i _ => 2 - (intOf i).toNat)
 case atStart => exact ⟨0, by omega, rfl, fun h => absurd h (by omega), fun h => absurd h (by omega), Below.refl _ _⟩
 case round =>
  obtain ⟨j, hj, rfl, g0, g1, hb⟩ := hrel
  have G0 := Aside0.mk g0
  have G1 := Aside0.mk g1
  clear g0 g1
  have y0 := pw_cell_below hb Y0.out
  have y1 := pw_cell_below hb Y1.out
  have y2 := pw_cell_below hb Y2.out
  have y3 := pw_cell_below hb Y3.out
  have y4 := pw_cell_below hb Y4.out
  have HBR := Aside0.mk hb
  clear hb
  have hjj : j = 0 ∨ j = 1 ∨ j = 2 := by omega
  rcases hjj with rfl | rfl | rfl
  ·go_wp2_with fail
   refine (hh _).mono ?_
   rintro e w4 ⟨rfl, hb⟩
   have z0 := pw_cell_below hb y0
   have z1 := pw_cell_below hb y1
   have z2 := pw_cell_below hb y2
   have z3 := pw_cell_below hb y3
   have z4 := pw_cell_below hb y4
   have hzr := HBR.out.size
   have HB4 := Aside0.mk (HBR.out.trans (hb.mono (by omega)))
   clear y0 y1 y2 y3 y4 hb
   go_wp2_with fail
   all_goals first
    | (go_roundw; (case rel => exact ⟨1, by omega, by first | rfl | go_num, fun _ => by simp [badH, *], fun h => absurd h (by omega), HB4.out⟩); (case measure => simp [intOf]))
    | (go_ret; refine ⟨?_, HB.out.trans (HB4.out.mono (by omega))⟩; rw [HX.out]; simp [badH, errW, *])
  ·go_wp2_with fail
   refine (hh _).mono ?_
   rintro e w4 ⟨rfl, hb⟩
   have z0 := pw_cell_below hb y0
   have z1 := pw_cell_below hb y1
   have z2 := pw_cell_below hb y2
   have z3 := pw_cell_below hb y3
   have z4 := pw_cell_below hb y4
   have hzr := HBR.out.size
   have HB4 := Aside0.mk (HBR.out.trans (hb.mono (by omega)))
   clear y0 y1 y2 y3 y4 hb
   go_wp2_with fail
   all_goals first
    | (go_roundw; (case rel => exact ⟨2, by omega, by first | rfl | go_num, fun _ => G0.out (by omega), fun _ => by simp [badH, *], HB4.out⟩); (case measure => simp [intOf]))
    | (go_ret; refine ⟨?_, HB.out.trans (HB4.out.mono (by omega))⟩; rw [HX.out]; simp [badH, errW, *])
  ·have r0 := G0.out (by omega)
   have r1 := G1.out (by omega)
   have hX : X = none := by rw [HX.out, r0, r1]; rfl
   subst hX
   clear y0 y1 y2 y3 y4
   go_wp2
   go_ret
   exact ⟨rfl, HB.out.trans (HBR.out.mono (by have := HB.out.size; omega))⟩
theorem tcheck_2 (b0 b1 s0 s1 : Int) (w : World) (X : Option Int) (hX : X = if (badH b0 s0 18446744073709551600 || badH b1 s1 18446744073709551600) = true then some 5 else none) :
    Calls Tryd.prog 53 #[.agg #[.int .i64 2, .int .u64 b0, .int .u64 b1, .int .u64 s0, .int .u64 s1]] w fun e w' => e = .returned (errW X) ∧ Below w.heap.size w w' := by
 have hwr : IntKind.u64.wrap 295147905179352825840 = 18446744073709551600 := by decide
 have HX := Aside0.mk hX
 clear hX
 have hg := fun W => tgood 2 W
 have hm := fun W => tmost 2 3 rfl W
 have hh := fun W => thalves 2 W
 rw [decide_eq_true (by decide)] at hg
 rw [show halvesR 2 = 2 from rfl] at hh
 go_enter Tryd.func53, Tryd.ntmps53
 go_wp2_with fail
 obtain ⟨w1, hw1, hcc, hsz, hB1⟩ := one_new w #[.int .i64 2, .int .u64 b0, .int .u64 b1, .int .u64 s0, .int .u64 s1] 29
 rw [← hw1]
 have y0 : w1.cell? ⟨w.heap.size, 0, none⟩ = some (.int .i64 2) := hcc 0 _ rfl
 have y1 : w1.cell? ⟨w.heap.size, 1, none⟩ = some (.int .u64 b0) := hcc 1 _ rfl
 have y2 : w1.cell? ⟨w.heap.size, 2, none⟩ = some (.int .u64 b1) := hcc 2 _ rfl
 have y3 : w1.cell? ⟨w.heap.size, 3, none⟩ = some (.int .u64 s0) := hcc 3 _ rfl
 have y4 : w1.cell? ⟨w.heap.size, 4, none⟩ = some (.int .u64 s1) := hcc 4 _ rfl
 have HB1 := Aside0.mk hB1
 clear hw1 hcc hB1
 refine (hg _).mono ?_
 rintro e w2 ⟨rfl, hb⟩
 have y0 := pw_cell_below hb y0
 have y1 := pw_cell_below hb y1
 have y2 := pw_cell_below hb y2
 have y3 := pw_cell_below hb y3
 have y4 := pw_cell_below hb y4
 have HB := Aside0.mk (HB1.out.trans (hb.mono (by omega)))
 clear hb
 go_wp2_with fail
 refine (hm _).mono ?_
 rintro e w3 ⟨rfl, hb⟩
 have y0 := pw_cell_below hb y0
 have y1 := pw_cell_below hb y1
 have y2 := pw_cell_below hb y2
 have y3 := pw_cell_below hb y3
 have y4 := pw_cell_below hb y4
 have hz3 := hb.size
 have HB := Aside0.mk (HB.out.trans (hb.mono (by have := HB.out.size; omega)))
 clear hb
 go_wp2_with fail
 have Y0 := Aside0.mk y0
 have Y1 := Aside0.mk y1
 have Y2 := Aside0.mk y2
 have Y3 := Aside0.mk y3
 have Y4 := Aside0.mk y4
 clear y0 y1 y2 y3 y4
 have hzw := HB.out.size
 go_loopw [20] (fun i wr => ∃ j : Nat, j ≤ 2 ∧ i = .int .i64 j ∧ (0 < j → badH b0 s0 18446744073709551600 = false) ∧ (1 < j → badH b1 s1 18446744073709551600 = false) ∧ Below w3.heap.size w3 wr) (fun i _ => 2 - (intOf i).toNat)
 case atStart => exact ⟨0, by omega, rfl, fun h => absurd h (by omega), fun h => absurd h (by omega), Below.refl _ _⟩
 case round =>
  obtain ⟨j, hj, rfl, g0, g1, hb⟩ := hrel
  have G0 := Aside0.mk g0
  have G1 := Aside0.mk g1
  clear g0 g1
  have y0 := pw_cell_below hb Y0.out
  have y1 := pw_cell_below hb Y1.out
  have y2 := pw_cell_below hb Y2.out
  have y3 := pw_cell_below hb Y3.out
  have y4 := pw_cell_below hb Y4.out
  have HBR := Aside0.mk hb
  clear hb
  have hjj : j = 0 ∨ j = 1 ∨ j = 2 := by omega
  rcases hjj with rfl | rfl | rfl
  ·go_wp2_with fail
   refine (hh _).mono ?_
   rintro e w4 ⟨rfl, hb⟩
   have z0 := pw_cell_below hb y0
   have z1 := pw_cell_below hb y1
   have z2 := pw_cell_below hb y2
   have z3 := pw_cell_below hb y3
   have z4 := pw_cell_below hb y4
   have hzr := HBR.out.size
   have HB4 := Aside0.mk (HBR.out.trans (hb.mono (by omega)))
   clear y0 y1 y2 y3 y4 hb
   go_wp2_with fail
   all_goals first
    | (go_roundw; (case rel => exact ⟨1, by omega, by first | rfl | go_num, fun _ => by simp [badH, *], fun h => absurd h (by omega), HB4.out⟩); (case measure => simp [intOf]))
    | (go_ret; refine ⟨?_, HB.out.trans (HB4.out.mono (by omega))⟩; rw [HX.out]; simp [badH, errW, *])
  ·go_wp2_with fail
   refine (hh _).mono ?_
   rintro e w4 ⟨rfl, hb⟩
   have z0 := pw_cell_below hb y0
   have z1 := pw_cell_below hb y1
   have z2 := pw_cell_below hb y2
   have z3 := pw_cell_below hb y3
   have z4 := pw_cell_below hb y4
   have hzr := HBR.out.size
   have HB4 := Aside0.mk (HBR.out.trans (hb.mono (by omega)))
   clear y0 y1 y2 y3 y4 hb
   go_wp2_with fail
   all_goals first
    | (go_roundw; (case rel => exact ⟨2, by omega, by first | rfl | go_num, fun _ => G0.out (by omega), fun _ => by simp [badH, *], HB4.out⟩); (case measure => simp [intOf]))
    | (go_ret; refine ⟨?_, HB.out.trans (HB4.out.mono (by omega))⟩; rw [HX.out]; simp [badH, errW, *])
  ·have r0 := G0.out (by omega)
   have r1 := G1.out (by omega)
   have hX : X = none := by rw [HX.out, r0, r1]; rfl
   subst hX
   clear y0 y1 y2 y3 y4
   go_wp2
   go_ret
   exact ⟨rfl, HB.out.trans (HBR.out.mono (by have := HB.out.size; omega))⟩
theorem tcheck_3 (b0 b1 s0 s1 : Int) (w : World) (X : Option Int) (hX : X = if (badH b0 s0 18446744073709543424 || badH b1 s1 18446744073709543424) = true then some 5 else none) :
    Calls Tryd.prog 53 #[.agg #[.int .i64 3, .int .u64 b0, .int .u64 b1, .int .u64 s0, .int .u64 s1]] w fun e w' => e = .returned (errW X) ∧ Below w.heap.size w w' := by
 have hwr : IntKind.u64.wrap 151115727451828646830080 = 18446744073709543424 := by decide
 have HX := Aside0.mk hX
 clear hX
 have hg := fun W => tgood 3 W
 have hm := fun W => tmost 3 12 rfl W
 have hh := fun W => thalves 3 W
 rw [decide_eq_true (by decide)] at hg
 rw [show halvesR 3 = 2 from rfl] at hh
 go_enter Tryd.func53, Tryd.ntmps53
 go_wp2_with fail
 obtain ⟨w1, hw1, hcc, hsz, hB1⟩ := one_new w #[.int .i64 3, .int .u64 b0, .int .u64 b1, .int .u64 s0, .int .u64 s1] 29
 rw [← hw1]
 have y0 : w1.cell? ⟨w.heap.size, 0, none⟩ = some (.int .i64 3) := hcc 0 _ rfl
 have y1 : w1.cell? ⟨w.heap.size, 1, none⟩ = some (.int .u64 b0) := hcc 1 _ rfl
 have y2 : w1.cell? ⟨w.heap.size, 2, none⟩ = some (.int .u64 b1) := hcc 2 _ rfl
 have y3 : w1.cell? ⟨w.heap.size, 3, none⟩ = some (.int .u64 s0) := hcc 3 _ rfl
 have y4 : w1.cell? ⟨w.heap.size, 4, none⟩ = some (.int .u64 s1) := hcc 4 _ rfl
 have HB1 := Aside0.mk hB1
 clear hw1 hcc hB1
 refine (hg _).mono ?_
 rintro e w2 ⟨rfl, hb⟩
 have y0 := pw_cell_below hb y0
 have y1 := pw_cell_below hb y1
 have y2 := pw_cell_below hb y2
 have y3 := pw_cell_below hb y3
 have y4 := pw_cell_below hb y4
 have HB := Aside0.mk (HB1.out.trans (hb.mono (by omega)))
 clear hb
 go_wp2_with fail
 refine (hm _).mono ?_
 rintro e w3 ⟨rfl, hb⟩
 have y0 := pw_cell_below hb y0
 have y1 := pw_cell_below hb y1
 have y2 := pw_cell_below hb y2
 have y3 := pw_cell_below hb y3
 have y4 := pw_cell_below hb y4
 have hz3 := hb.size
 have HB := Aside0.mk (HB.out.trans (hb.mono (by have := HB.out.size; omega)))
 clear hb
 go_wp2_with fail
 have Y0 := Aside0.mk y0
 have Y1 := Aside0.mk y1
 have Y2 := Aside0.mk y2
 have Y3 := Aside0.mk y3
 have Y4 := Aside0.mk y4
 clear y0 y1 y2 y3 y4
 have hzw := HB.out.size
 go_loopw [20] (fun i wr => ∃ j : Nat, j ≤ 2 ∧ i = .int .i64 j ∧ (0 < j → badH b0 s0 18446744073709543424 = false) ∧ (1 < j → badH b1 s1 18446744073709543424 = false) ∧ Below w3.heap.size w3 wr) (fun i _ => 2 - (intOf i).toNat)
 case atStart => exact ⟨0, by omega, rfl, fun h => absurd h (by omega), fun h => absurd h (by omega), Below.refl _ _⟩
 case round =>
  obtain ⟨j, hj, rfl, g0, g1, hb⟩ := hrel
  have G0 := Aside0.mk g0
  have G1 := Aside0.mk g1
  clear g0 g1
  have y0 := pw_cell_below hb Y0.out
  have y1 := pw_cell_below hb Y1.out
  have y2 := pw_cell_below hb Y2.out
  have y3 := pw_cell_below hb Y3.out
  have y4 := pw_cell_below hb Y4.out
  have HBR := Aside0.mk hb
  clear hb
  have hjj : j = 0 ∨ j = 1 ∨ j = 2 := by omega
  rcases hjj with rfl | rfl | rfl
  ·go_wp2_with fail
   refine (hh _).mono ?_
   rintro e w4 ⟨rfl, hb⟩
   have z0 := pw_cell_below hb y0
   have z1 := pw_cell_below hb y1
   have z2 := pw_cell_below hb y2
   have z3 := pw_cell_below hb y3
   have z4 := pw_cell_below hb y4
   have hzr := HBR.out.size
   have HB4 := Aside0.mk (HBR.out.trans (hb.mono (by omega)))
   clear y0 y1 y2 y3 y4 hb
   go_wp2_with fail
   all_goals first
    | (go_roundw; (case rel => exact ⟨1, by omega, by first | rfl | go_num, fun _ => by simp [badH, *], fun h => absurd h (by omega), HB4.out⟩); (case measure => simp [intOf]))
    | (go_ret; refine ⟨?_, HB.out.trans (HB4.out.mono (by omega))⟩; rw [HX.out]; simp [badH, errW, *])
  ·go_wp2_with fail
   refine (hh _).mono ?_
   rintro e w4 ⟨rfl, hb⟩
   have z0 := pw_cell_below hb y0
   have z1 := pw_cell_below hb y1
   have z2 := pw_cell_below hb y2
   have z3 := pw_cell_below hb y3
   have z4 := pw_cell_below hb y4
   have hzr := HBR.out.size
   have HB4 := Aside0.mk (HBR.out.trans (hb.mono (by omega)))
   clear y0 y1 y2 y3 y4 hb
   go_wp2_with fail
   all_goals first
    | (go_roundw; (case rel => exact ⟨2, by omega, by first | rfl | go_num, fun _ => G0.out (by omega), fun _ => by simp [badH, *], HB4.out⟩); (case measure => simp [intOf]))
    | (go_ret; refine ⟨?_, HB.out.trans (HB4.out.mono (by omega))⟩; rw [HX.out]; simp [badH, errW, *])
  ·have r0 := G0.out (by omega)
   have r1 := G1.out (by omega)
   have hX : X = none := by rw [HX.out, r0, r1]; rfl
   subst hX
   clear y0 y1 y2 y3 y4
   go_wp2
   go_ret
   exact ⟨rfl, HB.out.trans (HBR.out.mono (by have := HB.out.size; omega))⟩
def restT (l : Int) : Int := if l = 1 then 0 else if l = 2 then 18446744073709551600 else 18446744073709543424
def outT (l : Int) : Int := if l = 1 then 18446744073709551615 else restT l
def checkT (l b0 b1 s0 s1 : Int) : Option Int := if 1 ≤ l ∧ l ≤ 3 then (if (badH b0 s0 (restT l) || badH b1 s1 (outT l)) = true then some 5 else none) else some 11
def XTCheck.f (l b0 b1 s0 s1 : Int) : Option (Option Int) := some (checkT l b0 b1 s0 s1)
theorem XTCheck.calls (a0_0 : Int) (a0_1 : Int) (a0_2 : Int) (a0_3 : Int) (a0_4 : Int) (r : Option Int) (w : World) (h : XTCheck.f a0_0 a0_1 a0_2 a0_3 a0_4 = some r) :
    Calls Tryd.prog 53 #[.agg #[.int .i64 a0_0, .int .u64 a0_1, .int .u64 a0_2, .int .u64 a0_3, .int .u64 a0_4]] w fun e w' => e = .returned (errW r) ∧ Below w.heap.size w w' := by
 unfold XTCheck.f at h
 obtain rfl := Option.some.inj h
 unfold checkT
 by_cases hl : 1 ≤ a0_0 ∧ a0_0 ≤ 3
 ·rw [if_pos hl]
  have hc : a0_0 = 1 ∨ a0_0 = 2 ∨ a0_0 = 3 := by omega
  rcases hc with rfl | rfl | rfl
  ·exact tcheck_1 _ _ _ _ w _ rfl
  ·exact tcheck_2 _ _ _ _ w _ rfl
  ·exact tcheck_3 _ _ _ _ w _ rfl
 ·rw [if_neg hl]
  exact tcheck_bad _ _ _ _ _ w hl
namespace H
attribute [local go_sem] max2_int min2_int max_two min_two max_three min_three max_four min_four
def iso_Keeps.j0 : Nat → Int → Bool → Int → Int → Int → Int → Int → Option (Bool)
 | 0, _, _, _, _, _, _, _ => none
 | k + 1, x1, x16, x108000, x108001, x108002, x108003, x108004 => if x16 = true then (some false) else (if x108000 = 1 then (none) else ((XOn.f x108000 x1 0 0 0).bind fun bt111 => (if bt111.2.2.1 = 0 then (some true) else (if x108001 = x108002 then (some (x108003 == x108004)) else (some false)))))
def iso_Keeps.f (k : Nat) (a0_0 : Int) (a0_1 : Int) (a0_2 : Int) (a0_3 : Int) (a0_4 : Int) (a1 : Int) : Option (Bool) := (XTCheck.f a0_0 a0_1 a0_2 a0_3 a0_4).bind fun t108 => (if t108.isNone = true then ((axis_Operator_Good.f a1).bind fun t110 => (iso_Keeps.j0 k a1 (!t110) a0_0 a0_1 a0_2 a0_3 a0_4)) else (iso_Keeps.j0 k a1 true a0_0 a0_1 a0_2 a0_3 a0_4))
theorem iso_Keeps.calls (k : Nat) (a0_0 : Int) (a0_1 : Int) (a0_2 : Int) (a0_3 : Int) (a0_4 : Int) (a1 : Int) (r : Bool) (w : World) (h : iso_Keeps.f k a0_0 a0_1 a0_2 a0_3 a0_4 a1 = some r) :
  Calls Tryd.prog 18 #[.agg #[.int .i64 a0_0, .int .u64 a0_1, .int .u64 a0_2, .int .u64 a0_3, .int .u64 a0_4], .int .i64 a1] w fun e w' => e = .returned (.bool r) ∧ Below w.heap.size w w' := by
 have hu29 := Tryd.underlying29
 have hu65 := Tryd.underlying65
 have hu39 := Tryd.underlying39
 have HB := Aside0.mk (Below.refl w.heap.size w)
 have H : ((XTCheck.f a0_0 a0_1 a0_2 a0_3 a0_4).bind fun t108 => (if t108.isNone = true then ((axis_Operator_Good.f a1).bind fun t110 => (iso_Keeps.j0 k a1 (!t110) a0_0 a0_1 a0_2 a0_3 a0_4)) else (iso_Keeps.j0 k a1 true a0_0 a0_1 a0_2 a0_3 a0_4))) = some r := h
 clear h
 have HC3 := Aside0.mk H
 clear H
 go_enter Tryd.func18, Tryd.ntmps18
 go_upto_region 1 with (first | ((with_reducible refine gate_dst (N := 2) rfl ?_); refine bx_ 2 #[.int .i64 a0_0, .int .u64 a0_1, .int .u64 a0_2, .int .u64 a0_3, .int .u64 a0_4] 29 ?_; intro gb107 hg w4 hbox hb; have BK107 := Aside0.mk (hbox); have GW107 := Aside0.mk ((by rw [hg]; exact (below_size hb_) : w.heap.size ≤ gb107)); have GE107 := GW107; replace HB := Aside0.mk (below_step hb_ hb); clear hb hbox hg))
 (try simp only [Act.put, List.setIfInBounds_toArray, List.set_cons_zero, List.set_cons_succ])
 go_cut [16] (fun v16 wc => ∃ (kq : Nat) (x16_2 : Bool), v16 = .bool x16_2 ∧ Aside0 (iso_Keeps.j0 kq a1 x16_2 a0_0 a0_1 a0_2 a0_3 a0_4 = some r) ∧ Aside0 (kq ≤ k) ∧ Aside0 (wc.heap[gb107]? = some (.cells #[.int .i64 a0_0, .int .u64 a0_1, .int .u64 a0_2, .int .u64 a0_3, .int .u64 a0_4] 29 (0, 0))) ∧ Aside0 (Below w.heap.size w wc))
 case first =>
  have H := HC3.out
  clear HC3
  replace H := Option.bind_eq_some_iff.mp H
  obtain ⟨t108, A50, H⟩ := H
  replace H : (if t108.isNone = true then ((axis_Operator_Good.f a1).bind fun t110 => (iso_Keeps.j0 k a1 (!t110) a0_0 a0_1 a0_2 a0_3 a0_4)) else (iso_Keeps.j0 k a1 true a0_0 a0_1 a0_2 a0_3 a0_4)) = some r := H
  have A5 := Aside0.mk A50
  clear A50
  rcases t108 with _ | q109
  rotate_left
  ·
   have H1 : (iso_Keeps.j0 k a1 true a0_0 a0_1 a0_2 a0_3 a0_4) = some r := by rw [if_neg (show ¬ (some q109).isNone = true by simp)] at H; exact H
   clear H
   have H := H1
   clear H1
   try simp only [errW_none, errW_some]
   have H' := Aside0.mk H
   clear H
   obtain ⟨hcz9_0, hcz9_1, hcz9_2, hcz9_3, hcz9_4⟩ := cz5_ BK107.out
   obtain ⟨hfz9_0, hfz9_1, hfz9_2, hfz9_3, hfz9_4⟩ := fz5_ BK107.out
   go_wp2_with (first | ((with_reducible refine gate_callee (f := 53) rfl ?_); refine goesL_ (some 10) rfl rfl Tryd.func53 (by kernel_rfl) rfl #[.agg #[.int .i64 a0_0, .int .u64 a0_1, .int .u64 a0_2, .int .u64 a0_3, .int .u64 a0_4]] rfl ar_ ?_; (with_reducible refine (XTCheck.calls a0_0 a0_1 a0_2 a0_3 a0_4 (some q109) _ A5.out).mono ?_); rintro e w10 ⟨rfl, hb⟩; refine ⟨_, rfl, ?_⟩; replace BK107 := bb_ BK107.out hb; replace HB := Aside0.mk (below_step (hg_ GE107.out) hb); (try clear hb); (try clear hb2); (try clear hk); (try clear hi); (try simp only [errW_none, errW_some])))
   go_meet
   case rel => exact ⟨_, (true), rs_, H', ⟨by first | omega | exact Nat.le_refl _⟩, ⟨bk_ BK107.out⟩, ⟨by repeat (first | (with_reducible first | exact HB.out | apply ba_ | apply bn_ | apply bd_ | refine below_set ?_ GE107.out) | exact HB.out)⟩⟩
  have H1 : ((axis_Operator_Good.f a1).bind fun t110 => (iso_Keeps.j0 k a1 (!t110) a0_0 a0_1 a0_2 a0_3 a0_4)) = some r := by rw [if_pos (show (none : Option Int).isNone = true by rfl)] at H; exact H
  clear H
  have H := H1
  clear H1
  try simp only [errW_none, errW_some]
  replace H := Option.bind_eq_some_iff.mp H
  obtain ⟨t110, A60, H⟩ := H
  replace H : (iso_Keeps.j0 k a1 (!t110) a0_0 a0_1 a0_2 a0_3 a0_4) = some r := H
  have A6 := Aside0.mk A60
  clear A60
  have H' := Aside0.mk H
  clear H
  obtain ⟨hcz7_0, hcz7_1, hcz7_2, hcz7_3, hcz7_4⟩ := cz5_ BK107.out
  obtain ⟨hfz7_0, hfz7_1, hfz7_2, hfz7_3, hfz7_4⟩ := fz5_ BK107.out
  go_wp2_with (first | ((with_reducible refine gate_callee (f := 53) rfl ?_); refine goesL_ (some 10) rfl rfl Tryd.func53 (by kernel_rfl) rfl #[.agg #[.int .i64 a0_0, .int .u64 a0_1, .int .u64 a0_2, .int .u64 a0_3, .int .u64 a0_4]] rfl ar_ ?_; (with_reducible refine (XTCheck.calls a0_0 a0_1 a0_2 a0_3 a0_4 none _ A5.out).mono ?_); rintro e w8 ⟨rfl, hb⟩; refine ⟨_, rfl, ?_⟩; replace BK107 := bb_ BK107.out hb; replace HB := Aside0.mk (below_step (hg_ GE107.out) hb); (try clear hb); (try clear hb2); (try clear hk); (try clear hi); (try simp only [errW_none, errW_some])) | (go_at_call 44; (with_reducible refine (axis_Operator_Good.calls a1 t110 _ A6.out).mono ?_); rintro e w' ⟨rfl, ⟨nd, rfl⟩⟩))
  go_meet
  case rel => exact ⟨_, (!t110), rs_, H', ⟨by first | omega | exact Nat.le_refl _⟩, ⟨bk_ BK107.out⟩, ⟨by repeat (first | (with_reducible first | exact HB.out | apply ba_ | apply bn_ | apply bd_ | refine below_set ?_ GE107.out) | exact HB.out)⟩⟩
 case rest =>
  clear HC3
  try clear c1
  try clear q1
  try clear p2
  try clear c5
  try clear q10
  try clear hcz7_0
  try clear hcz7_1
  try clear hcz7_2
  try clear hcz7_3
  try clear hcz7_4
  try clear hcz9_0
  try clear hcz9_1
  try clear hcz9_2
  try clear hcz9_3
  try clear hcz9_4
  try clear hfz7_0
  try clear hfz7_1
  try clear hfz7_2
  try clear hfz7_3
  try clear hfz7_4
  try clear hfz9_0
  try clear hfz9_1
  try clear hfz9_2
  try clear hfz9_3
  try clear hfz9_4
  try clear q109
  obtain ⟨kq, x16_2, rfl, HA, HJ2, BK107, HB⟩ := hcut
  cases kq with
  | zero => exact absurd HA.out (by simp [iso_Keeps.j0])
  | succ kj2 =>
   have H := HA.out
   clear HA
   simp only [iso_Keeps.j0] at H
   by_cases c11 : x16_2 = true
   ·
    subst c11
    have H1 : (some false) = some r := by rw [if_pos rfl] at H; exact H
    clear H
    have H := H1
    clear H1
    obtain rfl := Option.some.inj H
    go_wp2
    go_ret
    exact ⟨er_, hg_ GE107.out⟩
   replace c11 := Bool.eq_false_iff.mpr c11
   subst c11
   have H1 : (if a0_0 = 1 then (none) else ((XOn.f a0_0 a1 0 0 0).bind fun bt111 => (if bt111.2.2.1 = 0 then (some true) else (if a0_1 = a0_2 then (some (a0_3 == a0_4)) else (some false))))) = some r := by rw [if_neg (show ¬ (false = true) by decide)] at H; exact H
   clear H
   have H := H1
   clear H1
   by_cases c12 : a0_0 = 1
   ·
    rw [if_pos c12] at H
    exact absurd H (by simp)
   rw [if_neg c12] at H
   have c12b0 : (a0_0 == 1) = false := beq_eq_false_iff_ne.mpr c12
   have c12b1 : (a0_0 != 1) = true := bne_iff_ne.mpr c12
   replace H := Option.bind_eq_some_iff.mp H
   obtain ⟨⟨t111, t112, t113, t114⟩, A130, H⟩ := H
   replace H : (if t113 = 0 then (some true) else (if a0_1 = a0_2 then (some (a0_3 == a0_4)) else (some false))) = some r := H
   have A13 := Aside0.mk A130
   clear A130
   by_cases c14 : t113 = 0
   ·
    rw [if_pos c14] at H
    have c14b0 : (t113 == 0) = true := beq_iff_eq.mpr c14
    have c14b1 : (t113 != 0) = false := bne_eq_false_iff_eq.mpr c14
    clear c14
    obtain rfl := Option.some.inj H
    obtain ⟨hcz15_0, hcz15_1, hcz15_2, hcz15_3, hcz15_4⟩ := cz5_ BK107.out
    obtain ⟨hfz15_0, hfz15_1, hfz15_2, hfz15_3, hfz15_4⟩ := fz5_ BK107.out
    go_wp2_with (first | ((with_reducible refine gate_callee (f := 56) rfl ?_); refine goesL_ (some 25) rfl rfl Tryd.func56 (by kernel_rfl) rfl #[.int .i64 a0_0, .int .i64 a1, .agg #[.int .i64 0, .int .i64 0, .int .i64 0]] rfl ar_ ?_; (with_reducible refine (XOn.calls a0_0 a1 0 0 0 t111 t112 t113 t114 _ A13.out).mono ?_); rintro e w16 ⟨rfl, hb⟩; refine ⟨_, rfl, ?_⟩; replace BK107 := bb_ BK107.out hb; replace HB := Aside0.mk (below_step (hg_ GE107.out) hb); (try clear hb); (try clear hb2); (try clear hk); (try clear hi); (try simp only [errW_none, errW_some])) | ((with_reducible refine gate_dst (N := 5) rfl ?_); refine bx_ 5 #[.int .i64 0, .int .i64 0, .int .i64 0] 65 ?_; intro gb115 hg w17 hbox hb; have BK115 := Aside0.mk (hbox); have GW115 := Aside0.mk ((by rw [hg]; exact (below_size (hg_ GE107.out)) : w.heap.size ≤ gb115)); have GE115 := GW115; have NB107_115 := Aside0.mk ((by rw [hg]; exact ne1_ BK107.out : gb107 ≠ gb115)); have NB115_107 := Aside0.mk ((by rw [hg]; exact ne2_ BK107.out : gb115 ≠ gb107)); replace BK107 := bb_ BK107.out hb; replace HB := Aside0.mk (below_step (hg_ GE107.out) hb); clear hb hbox hg; have hnb18 := NB115_107.out; have hnc18 := NB107_115.out; obtain ⟨hcz19_0, hcz19_1, hcz19_2⟩ := cz3_ BK115.out; obtain ⟨hfz19_0, hfz19_1, hfz19_2⟩ := fz3_ BK115.out))
    go_ret
    exact ⟨er_, hg2_ GE107.out GE115.out⟩
   rw [if_neg c14] at H
   have c14b0 : (t113 == 0) = false := beq_eq_false_iff_ne.mpr c14
   have c14b1 : (t113 != 0) = true := bne_iff_ne.mpr c14
   by_cases c20 : a0_1 = a0_2
   rotate_left
   ·
    rw [if_neg c20] at H
    have c20b0 : (a0_1 == a0_2) = false := beq_eq_false_iff_ne.mpr c20
    have c20b1 : (a0_1 != a0_2) = true := bne_iff_ne.mpr c20
    obtain rfl := Option.some.inj H
    obtain ⟨hcz27_0, hcz27_1, hcz27_2, hcz27_3, hcz27_4⟩ := cz5_ BK107.out
    obtain ⟨hfz27_0, hfz27_1, hfz27_2, hfz27_3, hfz27_4⟩ := fz5_ BK107.out
    go_wp2_with (first | ((with_reducible refine gate_callee (f := 56) rfl ?_); refine goesL_ (some 25) rfl rfl Tryd.func56 (by kernel_rfl) rfl #[.int .i64 a0_0, .int .i64 a1, .agg #[.int .i64 0, .int .i64 0, .int .i64 0]] rfl ar_ ?_; (with_reducible refine (XOn.calls a0_0 a1 0 0 0 t111 t112 t113 t114 _ A13.out).mono ?_); rintro e w28 ⟨rfl, hb⟩; refine ⟨_, rfl, ?_⟩; replace BK107 := bb_ BK107.out hb; replace HB := Aside0.mk (below_step (hg_ GE107.out) hb); (try clear hb); (try clear hb2); (try clear hk); (try clear hi); (try simp only [errW_none, errW_some])) | ((with_reducible refine gate_dst (N := 5) rfl ?_); refine bx_ 5 #[.int .i64 0, .int .i64 0, .int .i64 0] 65 ?_; intro gb115 hg w29 hbox hb; have BK115 := Aside0.mk (hbox); have GW115 := Aside0.mk ((by rw [hg]; exact (below_size (hg_ GE107.out)) : w.heap.size ≤ gb115)); have GE115 := GW115; have NB107_115 := Aside0.mk ((by rw [hg]; exact ne1_ BK107.out : gb107 ≠ gb115)); have NB115_107 := Aside0.mk ((by rw [hg]; exact ne2_ BK107.out : gb115 ≠ gb107)); replace BK107 := bb_ BK107.out hb; replace HB := Aside0.mk (below_step (hg_ GE107.out) hb); clear hb hbox hg; have hnb30 := NB115_107.out; have hnc30 := NB107_115.out; obtain ⟨hcz31_0, hcz31_1, hcz31_2⟩ := cz3_ BK115.out; obtain ⟨hfz31_0, hfz31_1, hfz31_2⟩ := fz3_ BK115.out; obtain ⟨hcz32_0, hcz32_1, hcz32_2, hcz32_3, hcz32_4⟩ := cz5_ BK107.out; obtain ⟨hfz32_0, hfz32_1, hfz32_2, hfz32_3, hfz32_4⟩ := fz5_ BK107.out))
    go_ret
    exact ⟨er_, hg2_ GE107.out GE115.out⟩
   rw [if_pos c20] at H
   have c20b0 : (a0_1 == a0_2) = true := beq_iff_eq.mpr c20
   have c20b1 : (a0_1 != a0_2) = false := bne_eq_false_iff_eq.mpr c20
   clear c20
   obtain rfl := Option.some.inj H
   obtain ⟨hcz21_0, hcz21_1, hcz21_2, hcz21_3, hcz21_4⟩ := cz5_ BK107.out
   obtain ⟨hfz21_0, hfz21_1, hfz21_2, hfz21_3, hfz21_4⟩ := fz5_ BK107.out
   go_wp2_with (first | ((with_reducible refine gate_callee (f := 56) rfl ?_); refine goesL_ (some 25) rfl rfl Tryd.func56 (by kernel_rfl) rfl #[.int .i64 a0_0, .int .i64 a1, .agg #[.int .i64 0, .int .i64 0, .int .i64 0]] rfl ar_ ?_; (with_reducible refine (XOn.calls a0_0 a1 0 0 0 t111 t112 t113 t114 _ A13.out).mono ?_); rintro e w22 ⟨rfl, hb⟩; refine ⟨_, rfl, ?_⟩; replace BK107 := bb_ BK107.out hb; replace HB := Aside0.mk (below_step (hg_ GE107.out) hb); (try clear hb); (try clear hb2); (try clear hk); (try clear hi); (try simp only [errW_none, errW_some])) | ((with_reducible refine gate_dst (N := 5) rfl ?_); refine bx_ 5 #[.int .i64 0, .int .i64 0, .int .i64 0] 65 ?_; intro gb115 hg w23 hbox hb; have BK115 := Aside0.mk (hbox); have GW115 := Aside0.mk ((by rw [hg]; exact (below_size (hg_ GE107.out)) : w.heap.size ≤ gb115)); have GE115 := GW115; have NB107_115 := Aside0.mk ((by rw [hg]; exact ne1_ BK107.out : gb107 ≠ gb115)); have NB115_107 := Aside0.mk ((by rw [hg]; exact ne2_ BK107.out : gb115 ≠ gb107)); replace BK107 := bb_ BK107.out hb; replace HB := Aside0.mk (below_step (hg_ GE107.out) hb); clear hb hbox hg; have hnb24 := NB115_107.out; have hnc24 := NB107_115.out; obtain ⟨hcz25_0, hcz25_1, hcz25_2⟩ := cz3_ BK115.out; obtain ⟨hfz25_0, hfz25_1, hfz25_2⟩ := fz3_ BK115.out; obtain ⟨hcz26_0, hcz26_1, hcz26_2, hcz26_3, hcz26_4⟩ := cz5_ BK107.out; obtain ⟨hfz26_0, hfz26_1, hfz26_2, hfz26_3, hfz26_4⟩ := fz5_ BK107.out))
   go_ret
   exact ⟨er_, hg2_ GE107.out GE115.out⟩
end H
def XOpOn.f (o a b : Int) : Option (Int × Int × Option Int) :=
 some (if 0 ≤ o ∧ o < 12 then (if goodP a b then (if goodP (onP o a b).1 (onP o a b).2 then ((onP o a b).1, (onP o a b).2, none) else (0, 0, some 6)) else (0, 0, some 6)) else (0, 0, some 4))
theorem XOpOn.calls (a0 : Int) (a1_0 : Int) (a1_1 : Int) (r1 : Int) (r2 : Int) (r3 : Option Int) (w : World) (h : XOpOn.f a0 a1_0 a1_1 = some (r1, r2, r3)) :
    Calls Tryd.prog 90 #[.int .i64 a0, .agg #[.int .i64 a1_0, .int .i64 a1_1]] w fun e w' => e = .returned (.tuple #[.agg #[.int .i64 r1, .int .i64 r2], errW r3]) ∧ Below w.heap.size w w' := by
 refine (opOn_any a0 a1_0 a1_1 w).mono ?_
 rintro e w' ⟨rfl, hb⟩
 refine ⟨?_, hb⟩
 have h' := Option.some.inj h
 unfold opOnR
 by_cases h1 : 0 ≤ a0 ∧ a0 < 12
 ·rw [if_pos h1] at h' ⊢
  by_cases h2 : goodP a1_0 a1_1
  ·rw [if_pos h2] at h' ⊢
   by_cases h3 : goodP (onP a0 a1_0 a1_1).1 (onP a0 a1_0 a1_1).2
   ·rw [if_pos h3] at h' ⊢
    simp only [Prod.mk.injEq] at h'
    obtain ⟨rfl, rfl, rfl⟩ := h'
    rfl
   ·rw [if_neg h3] at h' ⊢
    simp only [Prod.mk.injEq] at h'
    obtain ⟨rfl, rfl, rfl⟩ := h'
    rfl
  ·rw [if_neg h2] at h' ⊢
   simp only [Prod.mk.injEq] at h'
   obtain ⟨rfl, rfl, rfl⟩ := h'
   rfl
 ·rw [if_neg h1] at h' ⊢
  simp only [Prod.mk.injEq] at h'
  obtain ⟨rfl, rfl, rfl⟩ := h'
  rfl
def XSix.f : Option (Int × Int × Int × Int × Int × Int × Int × Int × Int × Int × Int × Int) := some (1, 0, 0, 1, -1, 1, -1, 0, 0, -1, 1, -1)
theorem XSix.calls (r1 r2 r3 r4 r5 r6 r7 r8 r9 r10 r11 r12 : Int) (w : World) (hGSix : Six w) (h : XSix.f = some (r1, r2, r3, r4, r5, r6, r7, r8, r9, r10, r11, r12)) :
    Calls Tryd.prog 32 #[] w fun e w' => e = .returned (.agg #[.int .i64 r1, .int .i64 r2, .int .i64 r3, .int .i64 r4, .int .i64 r5, .int .i64 r6, .int .i64 r7, .int .i64 r8, .int .i64 r9, .int .i64 r10, .int .i64 r11, .int .i64 r12]) ∧ Below w.heap.size w w' := by
 simp only [XSix.f, Option.some.injEq, Prod.mk.injEq] at h
 obtain ⟨rfl, rfl, rfl, rfl, rfl, rfl, rfl, rfl, rfl, rfl, rfl, rfl⟩ := h
 exact six_any w hGSix
def sixL : List S63 := [⟨1, 0⟩, ⟨0, 1⟩, ⟨-1, 1⟩, ⟨-1, 0⟩, ⟨0, -1⟩, ⟨1, -1⟩]
theorem sixL_C {w : World} {g : Nat} (h : w.heap[g]? = some (.cells #[.int .i64 1, .int .i64 0, .int .i64 0, .int .i64 1, .int .i64 (-1), .int .i64 1, .int .i64 (-1), .int .i64 0, .int .i64 0, .int .i64 (-1), .int .i64 1, .int .i64 (-1)] 69 (0, 0))) :
    Kd.C k63 w (some ⟨g, 0, none⟩) sixL.length sixL := by
 refine ⟨rfl, by decide, fun _ => ⟨_, rfl, fun j p hp => ?_⟩⟩
 refine ⟨_, rfl, k63_mk w p, fun i u hu => ?_⟩
 have hj : j < 6 := (List.getElem?_eq_some_iff.1 hp).1
 have hi : i < 2 := (List.getElem?_eq_some_iff.1 hu).1
 have hjj : j = 0 ∨ j = 1 ∨ j = 2 ∨ j = 3 ∨ j = 4 ∨ j = 5 := by omega
 have hii : i = 0 ∨ i = 1 := by omega
 rcases hjj with rfl | rfl | rfl | rfl | rfl | rfl <;> rcases hii with rfl | rfl <;>
  (simp [sixL] at hp; subst hp; simp at hu; subst hu; rw [Addr.add_lit]; exact (blk_cell h _).trans rfl)
def sixA : Nat → Int
 | 0 => 1 | 1 => 0 | 2 => -1 | 3 => -1 | 4 => 0 | _ => 1
def sixB : Nat → Int
 | 0 => 0 | 1 => 1 | 2 => 1 | 3 => 0 | 4 => -1 | _ => -1
def posN (o : Int) (i : Nat) : Nat := if o < 6 then (i + o.toNat) % 6 else (o.toNat - 6 + 1 + 6 - i) % 6
theorem posN_lt (o : Int) (i : Nat) : posN o i < 6 := by unfold posN; split <;> omega
theorem on_six : ∀ (o : Fin 12) (i : Fin 6), onP (o.1 : Int) (sixA i.1) (sixB i.1) = (sixA (posN (o.1 : Int) i.1), sixB (posN (o.1 : Int) i.1)) := by decide
theorem index_six : ∀ (i : Fin 6), axis_Point.f 10 sixL (sixA i.1) (sixB i.1) = some (i.1 : Int) := by
 intro i
 have : i.1 = 0 ∨ i.1 = 1 ∨ i.1 = 2 ∨ i.1 = 3 ∨ i.1 = 4 ∨ i.1 = 5 := by omega
 rcases this with e | e | e | e | e | e <;> rw [e] <;> simp [axis_Point.f, axis_Point.l0, sixL, rd_T63, sixA, sixB, wrap64]
abbrev SQ (w6 w8 w9 : World) (a b : Int) (W : World) : Prop := W.cell? ⟨w6.heap.size, 0, none⟩ = some (.int .i64 a) ∧ W.cell? ⟨w6.heap.size, 1, none⟩ = some (.int .i64 b) ∧ Kd.C k63 W (some ⟨w8.heap.size, 0, none⟩) sixL.length sixL ∧ Below w9.heap.size w9 W ∧ w9.heap.size ≤ W.heap.size
theorem SQ.below {w6 w8 w9 : World} {a b : Int} {W W1 : World} (h : SQ w6 w8 w9 a b W) (hb : Below W.heap.size W W1) : SQ w6 w8 w9 a b W1 := by
 obtain ⟨h0, h1, h2, h3, h4⟩ := h
 exact ⟨pw_cell_below hb h0, pw_cell_below hb h1, Kd.C_below h2 hb, h3.trans (hb.mono h4), Nat.le_trans h4 hb.size⟩
theorem on_f (o : Int) (h0 : 0 ≤ o) (h12 : o < 12) (i : Nat) (hi : i < 6) : XOpOn.f o (sixA i) (sixB i) = some (sixA (posN o i), sixB (posN o i), none) := by
 have ho : ((o.toNat : Nat) : Int) = o := Int.toNat_of_nonneg h0
 have h := on_six ⟨o.toNat, by omega⟩ ⟨i, hi⟩
 simp only [ho] at h
 have gA : ∀ j : Nat, -1 ≤ sixA j ∧ sixA j ≤ 1 := fun j => by unfold sixA; split <;> omega
 have gB : ∀ j : Nat, -1 ≤ sixB j ∧ sixB j ≤ 1 := fun j => by unfold sixB; split <;> omega
 have g1 : ∀ j : Nat, goodP (sixA j) (sixB j) := fun j => by have := gA j; have := gB j; unfold goodP; omega
 unfold XOpOn.f
 rw [if_pos ⟨h0, h12⟩, if_pos (g1 i), h, if_pos (g1 _)]
def brN (o ring : Int) : Nat → Int
 | 0 => 0
 | j + 1 => if Go.bits .and .i64 (ring / 2 ^ j) 1 = 1 then Go.bits .or .i64 (brN o ring j) (2 ^ posN o j) else brN o ring j
theorem brought_any (o ring : Int) (w : World) (h0 : 0 ≤ o) (h12 : o < 12) (hG : Six w) :
    Calls Tryd.prog 57 #[.int .i64 o, .int .i64 ring] w fun e w' => e = .returned (.int .i64 (brN o ring 6)) ∧ Below w.heap.size w w' := by
 have hsix := fun W hW => XSix.calls 1 0 0 1 (-1) 1 (-1) 0 0 (-1) 1 (-1) W hW rfl
 have HG := Aside0.mk hG
 have HSIX := Aside0.mk hsix
 clear hsix hG
 generalize hX : brN o ring 6 = X
 have HX := Aside0.mk hX
 clear hX
 go_enter Tryd.func57, Tryd.ntmps57
 go_wp2_with fail
 refine (HSIX.out _ HG.out).mono ?_
 rintro e w1 ⟨rfl, hb1⟩
 have HB1 := Aside0.mk hb1
 clear hb1
 go_wp2_with fail
 go_loopw [12, 5] (fun i out wr => ∃ j : Nat, j ≤ 6 ∧ i = .int .i64 j ∧ out = .int .i64 (brN o ring j) ∧ Below w1.heap.size w1 wr) (fun i _ _ => 6 - (intOf i).toNat)
 case atStart => exact ⟨0, by omega, rfl, rfl, Below.refl _ _⟩
 case round =>
  obtain ⟨j, hj, rfl, rfl, hb⟩ := hrel
  have HBR := Aside0.mk hb
  clear hb
  have hjj : j = 0 ∨ j = 1 ∨ j = 2 ∨ j = 3 ∨ j = 4 ∨ j = 5 ∨ j = 6 := by omega
  rcases hjj with rfl | rfl | rfl | rfl | rfl | rfl | rfl
  ·have hix : ∀ w : World, (Instr.index 69 (.agg #[.int .i64 1, .int .i64 0, .int .i64 0, .int .i64 1, .int .i64 (-1), .int .i64 1, .int .i64 (-1), .int .i64 0, .int .i64 0, .int .i64 (-1), .int .i64 1, .int .i64 (-1)]) (.int .i64 0)).run Tryd.prog w = .ok (.agg #[.int .i64 1, .int .i64 0]) w := fun w => by kernel_rfl
   have hon := fun W => XOpOn.calls o 1 0 _ _ _ W (on_f o h0 h12 0 (by omega))
   have hidx := index_six ⟨posN o 0, posN_lt o 0⟩
   have hk6 := posN_lt o 0
   have hbr : brN o ring 1 = if Go.bits .and .i64 (ring / 2 ^ 0) 1 = 1 then Go.bits .or .i64 (brN o ring 0) (2 ^ posN o 0) else brN o ring 0 := rfl
   have HBRN := Aside0.mk hbr
   clear hbr
   simp only at hidx
   generalize posN o 0 = k at hon hidx hk6 HBRN
   generalize sixA k = a at hon hidx
   generalize sixB k = b at hon hidx
   go_upto_region 5 with (fail)
   obtain ⟨w5, hw5, hcc5, hsz5, hB5⟩ := one_new wr #[.int .i64 1, .int .i64 0] 63
   rw [← hw5]
   have y0 : w5.cell? ⟨wr.heap.size, 0, none⟩ = some (.int .i64 1) := hcc5 0 _ rfl
   have y1 : w5.cell? ⟨wr.heap.size, 1, none⟩ = some (.int .i64 0) := hcc5 1 _ rfl
   have hzr := HBR.out.size
   have B5 := Aside0.mk (HBR.out.trans (hB5.mono (by omega)))
   clear hw5 hcc5 hB5
   go_wp2_with fail
   refine (hon _).mono ?_
   rintro e w6 ⟨rfl, hb⟩
   have hz6 := hb.size
   have B6 := Aside0.mk (B5.out.trans (hb.mono (by omega)))
   clear hb y0 y1
   go_upto_region 6 with (fail)
   obtain ⟨w7, hw7, hcc7, hsz7, hB7⟩ := one_new w6 #[.int .i64 a, .int .i64 b] 63
   rw [← hw7]
   have q0 : w7.cell? ⟨w6.heap.size, 0, none⟩ = some (.int .i64 a) := hcc7 0 _ rfl
   have q1 : w7.cell? ⟨w6.heap.size, 1, none⟩ = some (.int .i64 b) := hcc7 1 _ rfl
   have B7 := Aside0.mk (B6.out.trans (hB7.mono (by omega)))
   clear hw7 hcc7 hB7
   by_cases hbit : Go.bits .and .i64 (ring / 2 ^ 0) 1 = 1
   ·have hbit2 : (Go.bits .and .i64 (ring / 2 ^ 0) 1 == 1) = true := beq_iff_eq.2 hbit
    have hbr := (HBRN.out.trans (if_pos hbit)).symm
    simp only [Int.reducePow, Int.ediv_one] at hbit hbit2
    have HBR2 := Aside0.mk hbr
    clear hbr hbit
    go_wp2_with fail
    refine (HSIX.out _ (Six.below HG.out (HB1.out.trans (B7.out.mono HB1.out.size)))).mono ?_
    rintro e w8 ⟨rfl, hb⟩
    have q0 := pw_cell_below hb q0
    have q1 := pw_cell_below hb q1
    have hz8 := hb.size
    have B8 := Aside0.mk (B7.out.trans (hb.mono (by omega)))
    clear hb
    go_upto_region 8 with (fail)
    obtain ⟨w9, hw9⟩ : ∃ w9, w9 = w8.alloc (.cells #[.int .i64 1, .int .i64 0, .int .i64 0, .int .i64 1, .int .i64 (-1), .int .i64 1, .int .i64 (-1), .int .i64 0, .int .i64 0, .int .i64 (-1), .int .i64 1, .int .i64 (-1)] 69) := ⟨_, rfl⟩
    have hC9 : Kd.C k63 w9 (some ⟨w8.heap.size, 0, none⟩) sixL.length sixL := sixL_C (by rw [hw9]; exact blk_new _ _)
    have hBz : Below w8.heap.size w8 w9 := by rw [hw9]; exact below_alloc (Below.refl _ _) _
    rw [← hw9]
    have q0 := pw_cell_below hBz q0
    have q1 := pw_cell_below hBz q1
    have hz9 := hBz.size
    have B9 := Aside0.mk (B8.out.trans (hBz.mono (by omega)))
    clear hw9 hBz
    have hin := fun W hC => axis_Point.calls 10 (some ⟨w8.heap.size, 0, none⟩) 6 sixL a b k W hC (by decide) hidx
    have HIN := Aside0.mk hin
    clear hin
    have hS : SQ w6 w8 w9 a b w9.drew := ⟨q0, q1, Kd.C_below hC9 (below_drew (Below.refl _ _)), below_drew (Below.refl _ _), Nat.le_refl _⟩
    clear hC9 q0 q1
    go_region_held3 (fun W => W.cell? ⟨w6.heap.size, 0, none⟩ = some (.int .i64 a) ∧ W.cell? ⟨w6.heap.size, 1, none⟩ = some (.int .i64 b) ∧ Kd.C k63 W (some ⟨w8.heap.size, 0, none⟩) sixL.length sixL ∧ Below w9.heap.size w9 W ∧ w9.heap.size ≤ W.heap.size)
     (assumption)
     (first | (go_at_call 93; refine (HIN.out _ (by assumption : SQ w6 w8 w9 a b _).2.2.1).mono ?_; rintro e w10 ⟨rfl, hb10⟩; have hS10 := SQ.below (by assumption : SQ w6 w8 w9 a b _) hb10; clear hb10))
    have hwr : IntKind.i64.wrap (2 ^ k) = 2 ^ k := by
     have hkk : k = 0 ∨ k = 1 ∨ k = 2 ∨ k = 3 ∨ k = 4 ∨ k = 5 := by omega
     rcases hkk with rfl | rfl | rfl | rfl | rfl | rfl <;> decide
    have B10 := Aside0.mk (B9.out.trans ((by assumption : SQ w6 w8 w9 a b w10).2.2.2.1.mono (by omega)))
    clear hS10 hS
    go_wp2
    go_roundw
    case rel => exact ⟨1, by omega, by first | rfl | go_num, by rw [← HBR2.out]; try rw [hwr], B10.out⟩
    case measure => simp [intOf]
   ·have hbit2 : (Go.bits .and .i64 (ring / 2 ^ 0) 1 == 1) = false := beq_eq_false_iff_ne.2 hbit
    have hbr := (HBRN.out.trans (if_neg hbit)).symm
    have HBR2 := Aside0.mk hbr
    simp only [Int.reducePow, Int.ediv_one] at hbit hbit2
    clear hbr hbit q0 q1
    go_wp2
    go_roundw
    case rel => exact ⟨1, by omega, by first | rfl | go_num, by rw [← HBR2.out], B7.out⟩
    case measure => simp [intOf]
  ·have hix : ∀ w : World, (Instr.index 69 (.agg #[.int .i64 1, .int .i64 0, .int .i64 0, .int .i64 1, .int .i64 (-1), .int .i64 1, .int .i64 (-1), .int .i64 0, .int .i64 0, .int .i64 (-1), .int .i64 1, .int .i64 (-1)]) (.int .i64 1)).run Tryd.prog w = .ok (.agg #[.int .i64 0, .int .i64 1]) w := fun w => by kernel_rfl
   have hon := fun W => XOpOn.calls o 0 1 _ _ _ W (on_f o h0 h12 1 (by omega))
   have hidx := index_six ⟨posN o 1, posN_lt o 1⟩
   have hk6 := posN_lt o 1
   have hbr : brN o ring 2 = if Go.bits .and .i64 (ring / 2 ^ 1) 1 = 1 then Go.bits .or .i64 (brN o ring 1) (2 ^ posN o 1) else brN o ring 1 := rfl
   have HBRN := Aside0.mk hbr
   clear hbr
   simp only at hidx
   generalize posN o 1 = k at hon hidx hk6 HBRN
   generalize sixA k = a at hon hidx
   generalize sixB k = b at hon hidx
   go_upto_region 5 with (fail)
   obtain ⟨w5, hw5, hcc5, hsz5, hB5⟩ := one_new wr #[.int .i64 0, .int .i64 1] 63
   rw [← hw5]
   have y0 : w5.cell? ⟨wr.heap.size, 0, none⟩ = some (.int .i64 0) := hcc5 0 _ rfl
   have y1 : w5.cell? ⟨wr.heap.size, 1, none⟩ = some (.int .i64 1) := hcc5 1 _ rfl
   have hzr := HBR.out.size
   have B5 := Aside0.mk (HBR.out.trans (hB5.mono (by omega)))
   clear hw5 hcc5 hB5
   go_wp2_with fail
   refine (hon _).mono ?_
   rintro e w6 ⟨rfl, hb⟩
   have hz6 := hb.size
   have B6 := Aside0.mk (B5.out.trans (hb.mono (by omega)))
   clear hb y0 y1
   go_upto_region 6 with (fail)
   obtain ⟨w7, hw7, hcc7, hsz7, hB7⟩ := one_new w6 #[.int .i64 a, .int .i64 b] 63
   rw [← hw7]
   have q0 : w7.cell? ⟨w6.heap.size, 0, none⟩ = some (.int .i64 a) := hcc7 0 _ rfl
   have q1 : w7.cell? ⟨w6.heap.size, 1, none⟩ = some (.int .i64 b) := hcc7 1 _ rfl
   have B7 := Aside0.mk (B6.out.trans (hB7.mono (by omega)))
   clear hw7 hcc7 hB7
   by_cases hbit : Go.bits .and .i64 (ring / 2 ^ 1) 1 = 1
   ·have hbit2 : (Go.bits .and .i64 (ring / 2 ^ 1) 1 == 1) = true := beq_iff_eq.2 hbit
    have hbr := (HBRN.out.trans (if_pos hbit)).symm
    simp only [Int.reducePow, Int.ediv_one] at hbit hbit2
    have HBR2 := Aside0.mk hbr
    clear hbr hbit
    go_wp2_with fail
    refine (HSIX.out _ (Six.below HG.out (HB1.out.trans (B7.out.mono HB1.out.size)))).mono ?_
    rintro e w8 ⟨rfl, hb⟩
    have q0 := pw_cell_below hb q0
    have q1 := pw_cell_below hb q1
    have hz8 := hb.size
    have B8 := Aside0.mk (B7.out.trans (hb.mono (by omega)))
    clear hb
    go_upto_region 8 with (fail)
    obtain ⟨w9, hw9⟩ : ∃ w9, w9 = w8.alloc (.cells #[.int .i64 1, .int .i64 0, .int .i64 0, .int .i64 1, .int .i64 (-1), .int .i64 1, .int .i64 (-1), .int .i64 0, .int .i64 0, .int .i64 (-1), .int .i64 1, .int .i64 (-1)] 69) := ⟨_, rfl⟩
    have hC9 : Kd.C k63 w9 (some ⟨w8.heap.size, 0, none⟩) sixL.length sixL := sixL_C (by rw [hw9]; exact blk_new _ _)
    have hBz : Below w8.heap.size w8 w9 := by rw [hw9]; exact below_alloc (Below.refl _ _) _
    rw [← hw9]
    have q0 := pw_cell_below hBz q0
    have q1 := pw_cell_below hBz q1
    have hz9 := hBz.size
    have B9 := Aside0.mk (B8.out.trans (hBz.mono (by omega)))
    clear hw9 hBz
    have hin := fun W hC => axis_Point.calls 10 (some ⟨w8.heap.size, 0, none⟩) 6 sixL a b k W hC (by decide) hidx
    have HIN := Aside0.mk hin
    clear hin
    have hS : SQ w6 w8 w9 a b w9.drew := ⟨q0, q1, Kd.C_below hC9 (below_drew (Below.refl _ _)), below_drew (Below.refl _ _), Nat.le_refl _⟩
    clear hC9 q0 q1
    go_region_held3 (fun W => W.cell? ⟨w6.heap.size, 0, none⟩ = some (.int .i64 a) ∧ W.cell? ⟨w6.heap.size, 1, none⟩ = some (.int .i64 b) ∧ Kd.C k63 W (some ⟨w8.heap.size, 0, none⟩) sixL.length sixL ∧ Below w9.heap.size w9 W ∧ w9.heap.size ≤ W.heap.size)
     (assumption)
     (first | (go_at_call 93; refine (HIN.out _ (by assumption : SQ w6 w8 w9 a b _).2.2.1).mono ?_; rintro e w10 ⟨rfl, hb10⟩; have hS10 := SQ.below (by assumption : SQ w6 w8 w9 a b _) hb10; clear hb10))
    have hwr : IntKind.i64.wrap (2 ^ k) = 2 ^ k := by
     have hkk : k = 0 ∨ k = 1 ∨ k = 2 ∨ k = 3 ∨ k = 4 ∨ k = 5 := by omega
     rcases hkk with rfl | rfl | rfl | rfl | rfl | rfl <;> decide
    have B10 := Aside0.mk (B9.out.trans ((by assumption : SQ w6 w8 w9 a b w10).2.2.2.1.mono (by omega)))
    clear hS10 hS
    go_wp2
    go_roundw
    case rel => exact ⟨2, by omega, by first | rfl | go_num, by rw [← HBR2.out]; try rw [hwr], B10.out⟩
    case measure => simp [intOf]
   ·have hbit2 : (Go.bits .and .i64 (ring / 2 ^ 1) 1 == 1) = false := beq_eq_false_iff_ne.2 hbit
    have hbr := (HBRN.out.trans (if_neg hbit)).symm
    have HBR2 := Aside0.mk hbr
    simp only [Int.reducePow, Int.ediv_one] at hbit hbit2
    clear hbr hbit q0 q1
    go_wp2
    go_roundw
    case rel => exact ⟨2, by omega, by first | rfl | go_num, by rw [← HBR2.out], B7.out⟩
    case measure => simp [intOf]
  ·have hix : ∀ w : World, (Instr.index 69 (.agg #[.int .i64 1, .int .i64 0, .int .i64 0, .int .i64 1, .int .i64 (-1), .int .i64 1, .int .i64 (-1), .int .i64 0, .int .i64 0, .int .i64 (-1), .int .i64 1, .int .i64 (-1)]) (.int .i64 2)).run Tryd.prog w = .ok (.agg #[.int .i64 (-1), .int .i64 1]) w := fun w => by kernel_rfl
   have hon := fun W => XOpOn.calls o (-1) 1 _ _ _ W (on_f o h0 h12 2 (by omega))
   have hidx := index_six ⟨posN o 2, posN_lt o 2⟩
   have hk6 := posN_lt o 2
   have hbr : brN o ring 3 = if Go.bits .and .i64 (ring / 2 ^ 2) 1 = 1 then Go.bits .or .i64 (brN o ring 2) (2 ^ posN o 2) else brN o ring 2 := rfl
   have HBRN := Aside0.mk hbr
   clear hbr
   simp only at hidx
   generalize posN o 2 = k at hon hidx hk6 HBRN
   generalize sixA k = a at hon hidx
   generalize sixB k = b at hon hidx
   go_upto_region 5 with (fail)
   obtain ⟨w5, hw5, hcc5, hsz5, hB5⟩ := one_new wr #[.int .i64 (-1), .int .i64 1] 63
   rw [← hw5]
   have y0 : w5.cell? ⟨wr.heap.size, 0, none⟩ = some (.int .i64 (-1)) := hcc5 0 _ rfl
   have y1 : w5.cell? ⟨wr.heap.size, 1, none⟩ = some (.int .i64 1) := hcc5 1 _ rfl
   have hzr := HBR.out.size
   have B5 := Aside0.mk (HBR.out.trans (hB5.mono (by omega)))
   clear hw5 hcc5 hB5
   go_wp2_with fail
   refine (hon _).mono ?_
   rintro e w6 ⟨rfl, hb⟩
   have hz6 := hb.size
   have B6 := Aside0.mk (B5.out.trans (hb.mono (by omega)))
   clear hb y0 y1
   go_upto_region 6 with (fail)
   obtain ⟨w7, hw7, hcc7, hsz7, hB7⟩ := one_new w6 #[.int .i64 a, .int .i64 b] 63
   rw [← hw7]
   have q0 : w7.cell? ⟨w6.heap.size, 0, none⟩ = some (.int .i64 a) := hcc7 0 _ rfl
   have q1 : w7.cell? ⟨w6.heap.size, 1, none⟩ = some (.int .i64 b) := hcc7 1 _ rfl
   have B7 := Aside0.mk (B6.out.trans (hB7.mono (by omega)))
   clear hw7 hcc7 hB7
   by_cases hbit : Go.bits .and .i64 (ring / 2 ^ 2) 1 = 1
   ·have hbit2 : (Go.bits .and .i64 (ring / 2 ^ 2) 1 == 1) = true := beq_iff_eq.2 hbit
    have hbr := (HBRN.out.trans (if_pos hbit)).symm
    simp only [Int.reducePow, Int.ediv_one] at hbit hbit2
    have HBR2 := Aside0.mk hbr
    clear hbr hbit
    go_wp2_with fail
    refine (HSIX.out _ (Six.below HG.out (HB1.out.trans (B7.out.mono HB1.out.size)))).mono ?_
    rintro e w8 ⟨rfl, hb⟩
    have q0 := pw_cell_below hb q0
    have q1 := pw_cell_below hb q1
    have hz8 := hb.size
    have B8 := Aside0.mk (B7.out.trans (hb.mono (by omega)))
    clear hb
    go_upto_region 8 with (fail)
    obtain ⟨w9, hw9⟩ : ∃ w9, w9 = w8.alloc (.cells #[.int .i64 1, .int .i64 0, .int .i64 0, .int .i64 1, .int .i64 (-1), .int .i64 1, .int .i64 (-1), .int .i64 0, .int .i64 0, .int .i64 (-1), .int .i64 1, .int .i64 (-1)] 69) := ⟨_, rfl⟩
    have hC9 : Kd.C k63 w9 (some ⟨w8.heap.size, 0, none⟩) sixL.length sixL := sixL_C (by rw [hw9]; exact blk_new _ _)
    have hBz : Below w8.heap.size w8 w9 := by rw [hw9]; exact below_alloc (Below.refl _ _) _
    rw [← hw9]
    have q0 := pw_cell_below hBz q0
    have q1 := pw_cell_below hBz q1
    have hz9 := hBz.size
    have B9 := Aside0.mk (B8.out.trans (hBz.mono (by omega)))
    clear hw9 hBz
    have hin := fun W hC => axis_Point.calls 10 (some ⟨w8.heap.size, 0, none⟩) 6 sixL a b k W hC (by decide) hidx
    have HIN := Aside0.mk hin
    clear hin
    have hS : SQ w6 w8 w9 a b w9.drew := ⟨q0, q1, Kd.C_below hC9 (below_drew (Below.refl _ _)), below_drew (Below.refl _ _), Nat.le_refl _⟩
    clear hC9 q0 q1
    go_region_held3 (fun W => W.cell? ⟨w6.heap.size, 0, none⟩ = some (.int .i64 a) ∧ W.cell? ⟨w6.heap.size, 1, none⟩ = some (.int .i64 b) ∧ Kd.C k63 W (some ⟨w8.heap.size, 0, none⟩) sixL.length sixL ∧ Below w9.heap.size w9 W ∧ w9.heap.size ≤ W.heap.size)
     (assumption)
     (first | (go_at_call 93; refine (HIN.out _ (by assumption : SQ w6 w8 w9 a b _).2.2.1).mono ?_; rintro e w10 ⟨rfl, hb10⟩; have hS10 := SQ.below (by assumption : SQ w6 w8 w9 a b _) hb10; clear hb10))
    have hwr : IntKind.i64.wrap (2 ^ k) = 2 ^ k := by
     have hkk : k = 0 ∨ k = 1 ∨ k = 2 ∨ k = 3 ∨ k = 4 ∨ k = 5 := by omega
     rcases hkk with rfl | rfl | rfl | rfl | rfl | rfl <;> decide
    have B10 := Aside0.mk (B9.out.trans ((by assumption : SQ w6 w8 w9 a b w10).2.2.2.1.mono (by omega)))
    clear hS10 hS
    go_wp2
    go_roundw
    case rel => exact ⟨3, by omega, by first | rfl | go_num, by rw [← HBR2.out]; try rw [hwr], B10.out⟩
    case measure => simp [intOf]
   ·have hbit2 : (Go.bits .and .i64 (ring / 2 ^ 2) 1 == 1) = false := beq_eq_false_iff_ne.2 hbit
    have hbr := (HBRN.out.trans (if_neg hbit)).symm
    have HBR2 := Aside0.mk hbr
    simp only [Int.reducePow, Int.ediv_one] at hbit hbit2
    clear hbr hbit q0 q1
    go_wp2
    go_roundw
    case rel => exact ⟨3, by omega, by first | rfl | go_num, by rw [← HBR2.out], B7.out⟩
    case measure => simp [intOf]
  ·have hix : ∀ w : World, (Instr.index 69 (.agg #[.int .i64 1, .int .i64 0, .int .i64 0, .int .i64 1, .int .i64 (-1), .int .i64 1, .int .i64 (-1), .int .i64 0, .int .i64 0, .int .i64 (-1), .int .i64 1, .int .i64 (-1)]) (.int .i64 3)).run Tryd.prog w = .ok (.agg #[.int .i64 (-1), .int .i64 0]) w := fun w => by kernel_rfl
   have hon := fun W => XOpOn.calls o (-1) 0 _ _ _ W (on_f o h0 h12 3 (by omega))
   have hidx := index_six ⟨posN o 3, posN_lt o 3⟩
   have hk6 := posN_lt o 3
   have hbr : brN o ring 4 = if Go.bits .and .i64 (ring / 2 ^ 3) 1 = 1 then Go.bits .or .i64 (brN o ring 3) (2 ^ posN o 3) else brN o ring 3 := rfl
   have HBRN := Aside0.mk hbr
   clear hbr
   simp only at hidx
   generalize posN o 3 = k at hon hidx hk6 HBRN
   generalize sixA k = a at hon hidx
   generalize sixB k = b at hon hidx
   go_upto_region 5 with (fail)
   obtain ⟨w5, hw5, hcc5, hsz5, hB5⟩ := one_new wr #[.int .i64 (-1), .int .i64 0] 63
   rw [← hw5]
   have y0 : w5.cell? ⟨wr.heap.size, 0, none⟩ = some (.int .i64 (-1)) := hcc5 0 _ rfl
   have y1 : w5.cell? ⟨wr.heap.size, 1, none⟩ = some (.int .i64 0) := hcc5 1 _ rfl
   have hzr := HBR.out.size
   have B5 := Aside0.mk (HBR.out.trans (hB5.mono (by omega)))
   clear hw5 hcc5 hB5
   go_wp2_with fail
   refine (hon _).mono ?_
   rintro e w6 ⟨rfl, hb⟩
   have hz6 := hb.size
   have B6 := Aside0.mk (B5.out.trans (hb.mono (by omega)))
   clear hb y0 y1
   go_upto_region 6 with (fail)
   obtain ⟨w7, hw7, hcc7, hsz7, hB7⟩ := one_new w6 #[.int .i64 a, .int .i64 b] 63
   rw [← hw7]
   have q0 : w7.cell? ⟨w6.heap.size, 0, none⟩ = some (.int .i64 a) := hcc7 0 _ rfl
   have q1 : w7.cell? ⟨w6.heap.size, 1, none⟩ = some (.int .i64 b) := hcc7 1 _ rfl
   have B7 := Aside0.mk (B6.out.trans (hB7.mono (by omega)))
   clear hw7 hcc7 hB7
   by_cases hbit : Go.bits .and .i64 (ring / 2 ^ 3) 1 = 1
   ·have hbit2 : (Go.bits .and .i64 (ring / 2 ^ 3) 1 == 1) = true := beq_iff_eq.2 hbit
    have hbr := (HBRN.out.trans (if_pos hbit)).symm
    simp only [Int.reducePow, Int.ediv_one] at hbit hbit2
    have HBR2 := Aside0.mk hbr
    clear hbr hbit
    go_wp2_with fail
    refine (HSIX.out _ (Six.below HG.out (HB1.out.trans (B7.out.mono HB1.out.size)))).mono ?_
    rintro e w8 ⟨rfl, hb⟩
    have q0 := pw_cell_below hb q0
    have q1 := pw_cell_below hb q1
    have hz8 := hb.size
    have B8 := Aside0.mk (B7.out.trans (hb.mono (by omega)))
    clear hb
    go_upto_region 8 with (fail)
    obtain ⟨w9, hw9⟩ : ∃ w9, w9 = w8.alloc (.cells #[.int .i64 1, .int .i64 0, .int .i64 0, .int .i64 1, .int .i64 (-1), .int .i64 1, .int .i64 (-1), .int .i64 0, .int .i64 0, .int .i64 (-1), .int .i64 1, .int .i64 (-1)] 69) := ⟨_, rfl⟩
    have hC9 : Kd.C k63 w9 (some ⟨w8.heap.size, 0, none⟩) sixL.length sixL := sixL_C (by rw [hw9]; exact blk_new _ _)
    have hBz : Below w8.heap.size w8 w9 := by rw [hw9]; exact below_alloc (Below.refl _ _) _
    rw [← hw9]
    have q0 := pw_cell_below hBz q0
    have q1 := pw_cell_below hBz q1
    have hz9 := hBz.size
    have B9 := Aside0.mk (B8.out.trans (hBz.mono (by omega)))
    clear hw9 hBz
    have hin := fun W hC => axis_Point.calls 10 (some ⟨w8.heap.size, 0, none⟩) 6 sixL a b k W hC (by decide) hidx
    have HIN := Aside0.mk hin
    clear hin
    have hS : SQ w6 w8 w9 a b w9.drew := ⟨q0, q1, Kd.C_below hC9 (below_drew (Below.refl _ _)), below_drew (Below.refl _ _), Nat.le_refl _⟩
    clear hC9 q0 q1
    go_region_held3 (fun W => W.cell? ⟨w6.heap.size, 0, none⟩ = some (.int .i64 a) ∧ W.cell? ⟨w6.heap.size, 1, none⟩ = some (.int .i64 b) ∧ Kd.C k63 W (some ⟨w8.heap.size, 0, none⟩) sixL.length sixL ∧ Below w9.heap.size w9 W ∧ w9.heap.size ≤ W.heap.size)
     (assumption)
     (first | (go_at_call 93; refine (HIN.out _ (by assumption : SQ w6 w8 w9 a b _).2.2.1).mono ?_; rintro e w10 ⟨rfl, hb10⟩; have hS10 := SQ.below (by assumption : SQ w6 w8 w9 a b _) hb10; clear hb10))
    have hwr : IntKind.i64.wrap (2 ^ k) = 2 ^ k := by
     have hkk : k = 0 ∨ k = 1 ∨ k = 2 ∨ k = 3 ∨ k = 4 ∨ k = 5 := by omega
     rcases hkk with rfl | rfl | rfl | rfl | rfl | rfl <;> decide
    have B10 := Aside0.mk (B9.out.trans ((by assumption : SQ w6 w8 w9 a b w10).2.2.2.1.mono (by omega)))
    clear hS10 hS
    go_wp2
    go_roundw
    case rel => exact ⟨4, by omega, by first | rfl | go_num, by rw [← HBR2.out]; try rw [hwr], B10.out⟩
    case measure => simp [intOf]
   ·have hbit2 : (Go.bits .and .i64 (ring / 2 ^ 3) 1 == 1) = false := beq_eq_false_iff_ne.2 hbit
    have hbr := (HBRN.out.trans (if_neg hbit)).symm
    have HBR2 := Aside0.mk hbr
    simp only [Int.reducePow, Int.ediv_one] at hbit hbit2
    clear hbr hbit q0 q1
    go_wp2
    go_roundw
    case rel => exact ⟨4, by omega, by first | rfl | go_num, by rw [← HBR2.out], B7.out⟩
    case measure => simp [intOf]
  ·have hix : ∀ w : World, (Instr.index 69 (.agg #[.int .i64 1, .int .i64 0, .int .i64 0, .int .i64 1, .int .i64 (-1), .int .i64 1, .int .i64 (-1), .int .i64 0, .int .i64 0, .int .i64 (-1), .int .i64 1, .int .i64 (-1)]) (.int .i64 4)).run Tryd.prog w = .ok (.agg #[.int .i64 0, .int .i64 (-1)]) w := fun w => by kernel_rfl
   have hon := fun W => XOpOn.calls o 0 (-1) _ _ _ W (on_f o h0 h12 4 (by omega))
   have hidx := index_six ⟨posN o 4, posN_lt o 4⟩
   have hk6 := posN_lt o 4
   have hbr : brN o ring 5 = if Go.bits .and .i64 (ring / 2 ^ 4) 1 = 1 then Go.bits .or .i64 (brN o ring 4) (2 ^ posN o 4) else brN o ring 4 := rfl
   have HBRN := Aside0.mk hbr
   clear hbr
   simp only at hidx
   generalize posN o 4 = k at hon hidx hk6 HBRN
   generalize sixA k = a at hon hidx
   generalize sixB k = b at hon hidx
   go_upto_region 5 with (fail)
   obtain ⟨w5, hw5, hcc5, hsz5, hB5⟩ := one_new wr #[.int .i64 0, .int .i64 (-1)] 63
   rw [← hw5]
   have y0 : w5.cell? ⟨wr.heap.size, 0, none⟩ = some (.int .i64 0) := hcc5 0 _ rfl
   have y1 : w5.cell? ⟨wr.heap.size, 1, none⟩ = some (.int .i64 (-1)) := hcc5 1 _ rfl
   have hzr := HBR.out.size
   have B5 := Aside0.mk (HBR.out.trans (hB5.mono (by omega)))
   clear hw5 hcc5 hB5
   go_wp2_with fail
   refine (hon _).mono ?_
   rintro e w6 ⟨rfl, hb⟩
   have hz6 := hb.size
   have B6 := Aside0.mk (B5.out.trans (hb.mono (by omega)))
   clear hb y0 y1
   go_upto_region 6 with (fail)
   obtain ⟨w7, hw7, hcc7, hsz7, hB7⟩ := one_new w6 #[.int .i64 a, .int .i64 b] 63
   rw [← hw7]
   have q0 : w7.cell? ⟨w6.heap.size, 0, none⟩ = some (.int .i64 a) := hcc7 0 _ rfl
   have q1 : w7.cell? ⟨w6.heap.size, 1, none⟩ = some (.int .i64 b) := hcc7 1 _ rfl
   have B7 := Aside0.mk (B6.out.trans (hB7.mono (by omega)))
   clear hw7 hcc7 hB7
   by_cases hbit : Go.bits .and .i64 (ring / 2 ^ 4) 1 = 1
   ·have hbit2 : (Go.bits .and .i64 (ring / 2 ^ 4) 1 == 1) = true := beq_iff_eq.2 hbit
    have hbr := (HBRN.out.trans (if_pos hbit)).symm
    simp only [Int.reducePow, Int.ediv_one] at hbit hbit2
    have HBR2 := Aside0.mk hbr
    clear hbr hbit
    go_wp2_with fail
    refine (HSIX.out _ (Six.below HG.out (HB1.out.trans (B7.out.mono HB1.out.size)))).mono ?_
    rintro e w8 ⟨rfl, hb⟩
    have q0 := pw_cell_below hb q0
    have q1 := pw_cell_below hb q1
    have hz8 := hb.size
    have B8 := Aside0.mk (B7.out.trans (hb.mono (by omega)))
    clear hb
    go_upto_region 8 with (fail)
    obtain ⟨w9, hw9⟩ : ∃ w9, w9 = w8.alloc (.cells #[.int .i64 1, .int .i64 0, .int .i64 0, .int .i64 1, .int .i64 (-1), .int .i64 1, .int .i64 (-1), .int .i64 0, .int .i64 0, .int .i64 (-1), .int .i64 1, .int .i64 (-1)] 69) := ⟨_, rfl⟩
    have hC9 : Kd.C k63 w9 (some ⟨w8.heap.size, 0, none⟩) sixL.length sixL := sixL_C (by rw [hw9]; exact blk_new _ _)
    have hBz : Below w8.heap.size w8 w9 := by rw [hw9]; exact below_alloc (Below.refl _ _) _
    rw [← hw9]
    have q0 := pw_cell_below hBz q0
    have q1 := pw_cell_below hBz q1
    have hz9 := hBz.size
    have B9 := Aside0.mk (B8.out.trans (hBz.mono (by omega)))
    clear hw9 hBz
    have hin := fun W hC => axis_Point.calls 10 (some ⟨w8.heap.size, 0, none⟩) 6 sixL a b k W hC (by decide) hidx
    have HIN := Aside0.mk hin
    clear hin
    have hS : SQ w6 w8 w9 a b w9.drew := ⟨q0, q1, Kd.C_below hC9 (below_drew (Below.refl _ _)), below_drew (Below.refl _ _), Nat.le_refl _⟩
    clear hC9 q0 q1
    go_region_held3 (fun W => W.cell? ⟨w6.heap.size, 0, none⟩ = some (.int .i64 a) ∧ W.cell? ⟨w6.heap.size, 1, none⟩ = some (.int .i64 b) ∧ Kd.C k63 W (some ⟨w8.heap.size, 0, none⟩) sixL.length sixL ∧ Below w9.heap.size w9 W ∧ w9.heap.size ≤ W.heap.size)
     (assumption)
     (first | (go_at_call 93; refine (HIN.out _ (by assumption : SQ w6 w8 w9 a b _).2.2.1).mono ?_; rintro e w10 ⟨rfl, hb10⟩; have hS10 := SQ.below (by assumption : SQ w6 w8 w9 a b _) hb10; clear hb10))
    have hwr : IntKind.i64.wrap (2 ^ k) = 2 ^ k := by
     have hkk : k = 0 ∨ k = 1 ∨ k = 2 ∨ k = 3 ∨ k = 4 ∨ k = 5 := by omega
     rcases hkk with rfl | rfl | rfl | rfl | rfl | rfl <;> decide
    have B10 := Aside0.mk (B9.out.trans ((by assumption : SQ w6 w8 w9 a b w10).2.2.2.1.mono (by omega)))
    clear hS10 hS
    go_wp2
    go_roundw
    case rel => exact ⟨5, by omega, by first | rfl | go_num, by rw [← HBR2.out]; try rw [hwr], B10.out⟩
    case measure => simp [intOf]
   ·have hbit2 : (Go.bits .and .i64 (ring / 2 ^ 4) 1 == 1) = false := beq_eq_false_iff_ne.2 hbit
    have hbr := (HBRN.out.trans (if_neg hbit)).symm
    have HBR2 := Aside0.mk hbr
    simp only [Int.reducePow, Int.ediv_one] at hbit hbit2
    clear hbr hbit q0 q1
    go_wp2
    go_roundw
    case rel => exact ⟨5, by omega, by first | rfl | go_num, by rw [← HBR2.out], B7.out⟩
    case measure => simp [intOf]
  ·have hix : ∀ w : World, (Instr.index 69 (.agg #[.int .i64 1, .int .i64 0, .int .i64 0, .int .i64 1, .int .i64 (-1), .int .i64 1, .int .i64 (-1), .int .i64 0, .int .i64 0, .int .i64 (-1), .int .i64 1, .int .i64 (-1)]) (.int .i64 5)).run Tryd.prog w = .ok (.agg #[.int .i64 1, .int .i64 (-1)]) w := fun w => by kernel_rfl
   have hon := fun W => XOpOn.calls o 1 (-1) _ _ _ W (on_f o h0 h12 5 (by omega))
   have hidx := index_six ⟨posN o 5, posN_lt o 5⟩
   have hk6 := posN_lt o 5
   have hbr : brN o ring 6 = if Go.bits .and .i64 (ring / 2 ^ 5) 1 = 1 then Go.bits .or .i64 (brN o ring 5) (2 ^ posN o 5) else brN o ring 5 := rfl
   have HBRN := Aside0.mk hbr
   clear hbr
   simp only at hidx
   generalize posN o 5 = k at hon hidx hk6 HBRN
   generalize sixA k = a at hon hidx
   generalize sixB k = b at hon hidx
   go_upto_region 5 with (fail)
   obtain ⟨w5, hw5, hcc5, hsz5, hB5⟩ := one_new wr #[.int .i64 1, .int .i64 (-1)] 63
   rw [← hw5]
   have y0 : w5.cell? ⟨wr.heap.size, 0, none⟩ = some (.int .i64 1) := hcc5 0 _ rfl
   have y1 : w5.cell? ⟨wr.heap.size, 1, none⟩ = some (.int .i64 (-1)) := hcc5 1 _ rfl
   have hzr := HBR.out.size
   have B5 := Aside0.mk (HBR.out.trans (hB5.mono (by omega)))
   clear hw5 hcc5 hB5
   go_wp2_with fail
   refine (hon _).mono ?_
   rintro e w6 ⟨rfl, hb⟩
   have hz6 := hb.size
   have B6 := Aside0.mk (B5.out.trans (hb.mono (by omega)))
   clear hb y0 y1
   go_upto_region 6 with (fail)
   obtain ⟨w7, hw7, hcc7, hsz7, hB7⟩ := one_new w6 #[.int .i64 a, .int .i64 b] 63
   rw [← hw7]
   have q0 : w7.cell? ⟨w6.heap.size, 0, none⟩ = some (.int .i64 a) := hcc7 0 _ rfl
   have q1 : w7.cell? ⟨w6.heap.size, 1, none⟩ = some (.int .i64 b) := hcc7 1 _ rfl
   have B7 := Aside0.mk (B6.out.trans (hB7.mono (by omega)))
   clear hw7 hcc7 hB7
   by_cases hbit : Go.bits .and .i64 (ring / 2 ^ 5) 1 = 1
   ·have hbit2 : (Go.bits .and .i64 (ring / 2 ^ 5) 1 == 1) = true := beq_iff_eq.2 hbit
    have hbr := (HBRN.out.trans (if_pos hbit)).symm
    simp only [Int.reducePow, Int.ediv_one] at hbit hbit2
    have HBR2 := Aside0.mk hbr
    clear hbr hbit
    go_wp2_with fail
    refine (HSIX.out _ (Six.below HG.out (HB1.out.trans (B7.out.mono HB1.out.size)))).mono ?_
    rintro e w8 ⟨rfl, hb⟩
    have q0 := pw_cell_below hb q0
    have q1 := pw_cell_below hb q1
    have hz8 := hb.size
    have B8 := Aside0.mk (B7.out.trans (hb.mono (by omega)))
    clear hb
    go_upto_region 8 with (fail)
    obtain ⟨w9, hw9⟩ : ∃ w9, w9 = w8.alloc (.cells #[.int .i64 1, .int .i64 0, .int .i64 0, .int .i64 1, .int .i64 (-1), .int .i64 1, .int .i64 (-1), .int .i64 0, .int .i64 0, .int .i64 (-1), .int .i64 1, .int .i64 (-1)] 69) := ⟨_, rfl⟩
    have hC9 : Kd.C k63 w9 (some ⟨w8.heap.size, 0, none⟩) sixL.length sixL := sixL_C (by rw [hw9]; exact blk_new _ _)
    have hBz : Below w8.heap.size w8 w9 := by rw [hw9]; exact below_alloc (Below.refl _ _) _
    rw [← hw9]
    have q0 := pw_cell_below hBz q0
    have q1 := pw_cell_below hBz q1
    have hz9 := hBz.size
    have B9 := Aside0.mk (B8.out.trans (hBz.mono (by omega)))
    clear hw9 hBz
    have hin := fun W hC => axis_Point.calls 10 (some ⟨w8.heap.size, 0, none⟩) 6 sixL a b k W hC (by decide) hidx
    have HIN := Aside0.mk hin
    clear hin
    have hS : SQ w6 w8 w9 a b w9.drew := ⟨q0, q1, Kd.C_below hC9 (below_drew (Below.refl _ _)), below_drew (Below.refl _ _), Nat.le_refl _⟩
    clear hC9 q0 q1
    go_region_held3 (fun W => W.cell? ⟨w6.heap.size, 0, none⟩ = some (.int .i64 a) ∧ W.cell? ⟨w6.heap.size, 1, none⟩ = some (.int .i64 b) ∧ Kd.C k63 W (some ⟨w8.heap.size, 0, none⟩) sixL.length sixL ∧ Below w9.heap.size w9 W ∧ w9.heap.size ≤ W.heap.size)
     (assumption)
     (first | (go_at_call 93; refine (HIN.out _ (by assumption : SQ w6 w8 w9 a b _).2.2.1).mono ?_; rintro e w10 ⟨rfl, hb10⟩; have hS10 := SQ.below (by assumption : SQ w6 w8 w9 a b _) hb10; clear hb10))
    have hwr : IntKind.i64.wrap (2 ^ k) = 2 ^ k := by
     have hkk : k = 0 ∨ k = 1 ∨ k = 2 ∨ k = 3 ∨ k = 4 ∨ k = 5 := by omega
     rcases hkk with rfl | rfl | rfl | rfl | rfl | rfl <;> decide
    have B10 := Aside0.mk (B9.out.trans ((by assumption : SQ w6 w8 w9 a b w10).2.2.2.1.mono (by omega)))
    clear hS10 hS
    go_wp2
    go_roundw
    case rel => exact ⟨6, by omega, by first | rfl | go_num, by rw [← HBR2.out]; try rw [hwr], B10.out⟩
    case measure => simp [intOf]
   ·have hbit2 : (Go.bits .and .i64 (ring / 2 ^ 5) 1 == 1) = false := beq_eq_false_iff_ne.2 hbit
    have hbr := (HBRN.out.trans (if_neg hbit)).symm
    have HBR2 := Aside0.mk hbr
    simp only [Int.reducePow, Int.ediv_one] at hbit hbit2
    clear hbr hbit q0 q1
    go_wp2
    go_roundw
    case rel => exact ⟨6, by omega, by first | rfl | go_num, by rw [← HBR2.out], B7.out⟩
    case measure => simp [intOf]
  ·have hX : X = brN o ring 6 := HX.out.symm
   clear HX
   subst hX
   go_wp2
   go_ret
   exact ⟨rfl, HB1.out.trans (HBR.out.mono HB1.out.size)⟩
def XBrought.f (o ring : Int) : Option Int := if 0 ≤ o ∧ o < 12 then some (brN o ring 6) else none
theorem XBrought.calls (a0 : Int) (a1 : Int) (r : Int) (w : World) (hGSix : Six w) (h : XBrought.f a0 a1 = some r) :
    Calls Tryd.prog 57 #[.int .i64 a0, .int .i64 a1] w fun e w' => e = .returned (.int .i64 r) ∧ Below w.heap.size w w' := by
 unfold XBrought.f at h
 by_cases ho : 0 ≤ a0 ∧ a0 < 12
 ·rw [if_pos ho] at h
  obtain rfl := Option.some.inj h
  exact brought_any a0 a1 w ho.1 ho.2 hGSix
 ·rw [if_neg ho] at h
  cases h
section
theorem u64_nat (n : Nat) (h : n < 18446744073709551616) : IntKind.u64.wrap (n : Int) = n := by
 have : IntKind.u64.wrap (n : Int) = (n : Int) % 18446744073709551616 := by simp [IntKind.wrap, IntKind.signed, IntKind.bits]
 rw [this]
 omega
theorem ofInt_nat (n : Nat) (h : n < 18446744073709551616) : (BitVec.ofInt 64 (n : Int)).toNat = n := by
 rw [BitVec.toNat_ofInt]
 omega
theorem and_nat (a c : Nat) (ha : a < 18446744073709551616) (hc : c < 18446744073709551616) : Go.bits .and .u64 (a : Int) (c : Int) = ((a &&& c : Nat) : Int) := by
 have key : (BitVec.ofInt 64 (a : Int) &&& BitVec.ofInt 64 (c : Int)).toNat = a &&& c := by rw [BitVec.toNat_and, ofInt_nat a ha, ofInt_nat c hc]
 show IntKind.u64.wrap ((BitVec.ofInt 64 (a : Int) &&& BitVec.ofInt 64 (c : Int)).toNat : Nat) = _
 rw [key]
 exact u64_nat _ (Nat.lt_of_le_of_lt Nat.and_le_left ha)
theorem or_nat (a c : Nat) (ha : a < 18446744073709551616) (hc : c < 18446744073709551616) : Go.bits .or .u64 (a : Int) (c : Int) = ((a ||| c : Nat) : Int) := by
 have key : (BitVec.ofInt 64 (a : Int) ||| BitVec.ofInt 64 (c : Int)).toNat = a ||| c := by rw [BitVec.toNat_or, ofInt_nat a ha, ofInt_nat c hc]
 show IntKind.u64.wrap ((BitVec.ofInt 64 (a : Int) ||| BitVec.ofInt 64 (c : Int)).toNat : Nat) = _
 rw [key]
 exact u64_nat _ (Nat.or_lt_two_pow (n := 64) ha hc)
theorem shl_bit (v t : Nat) (hv : v ≤ 1) (ht : t < 64) : shl .u64 (v : Int) (t : Int) = ((v <<< t : Nat) : Int) := by
 unfold shl
 rw [show min (t : Int).toNat IntKind.u64.bits = t by simp [IntKind.bits]; omega, Nat.shiftLeft_eq]
 have h1 : v * 2 ^ t < 18446744073709551616 := Nat.lt_of_le_of_lt (Nat.mul_le_mul_right _ hv) (by rw [Nat.one_mul]; exact Nat.pow_lt_pow_right (by decide) ht)
 have := u64_nat (v * 2 ^ t) h1
 rw [← this]
 simp
theorem nxB_bit (x n : Nat) (hx : x < 18446744073709551616) : nxB (x : Int) (n : Int) = x.testBit n := by
 unfold nxB
 rw [Int.toNat_natCast, show (x : Int) / 2 ^ n = ((x / 2 ^ n : Nat) : Int) by simp]
 have h1 : x / 2 ^ n < 18446744073709551616 := Nat.lt_of_le_of_lt (Nat.div_le_self _ _) hx
 have := and_nat (x / 2 ^ n) 1 h1 (by decide)
 rw [show ((1 : Nat) : Int) = 1 from rfl] at this
 rw [this, Nat.testBit_eq_decide_div_mod_eq, Nat.and_one_is_mod]
 by_cases h : x / 2 ^ n % 2 = 1
 ·rw [h]; rfl
 ·have : x / 2 ^ n % 2 = 0 := by omega
  rw [this]; rfl
def posT (o i : Nat) : Nat := if o < 6 then (i + o) % 6 else (o + 1 - i) % 6
def brT (o r : Nat) : Nat := r % 2 * 2 ^ posT o 0 + r / 2 % 2 * 2 ^ posT o 1 + r / 4 % 2 * 2 ^ posT o 2 + r / 8 % 2 * 2 ^ posT o 3 + r / 16 % 2 * 2 ^ posT o 4 + r / 32 % 2 * 2 ^ posT o 5
theorem br_tab : ∀ o : Fin 12, ∀ r : Fin 64, brN (o.1 : Int) (r.1 : Int) 6 = (brT o.1 r.1 : Int) := by decide +kernel
theorem br_lt : ∀ o : Fin 12, ∀ r : Fin 64, brT o.1 r.1 < 64 := by decide +kernel
theorem br_f (o r : Nat) (ho : o < 12) (hr : r < 64) : XBrought.f (o : Int) (r : Int) = some (brT o r : Int) := by
 unfold XBrought.f
 rw [if_pos (by omega), br_tab ⟨o, ho⟩ ⟨r, hr⟩]
theorem brT_lt (o r : Nat) (ho : o < 12) (hr : r < 64) : brT o r < 64 := br_lt ⟨o, ho⟩ ⟨r, hr⟩
def badAt (b s : Int) (o r : Nat) : Bool := (nxB b r != nxB b (brT o r)) || (nxB s r != nxB s (brT o r))
theorem next_f (b0 b1 s0 s1 : Int) (live : Bool) (r : Nat) (hr : r < 64) : XNext.f 1 b0 b1 s0 s1 0 live (r : Int) = some (nxB (if live = true then s0 else b0) (r : Int)) := by
 unfold XNext.f
 rw [if_neg (by omega)]
 simp
theorem wN (r : Nat) (hr : r < 1000) : wrap64 ((r : Int) + 1) = ((r + 1 : Nat) : Int) := by rw [w64i _ (by omega) (by omega)]; simp
variable (b0 b1 s0 s1 : Int)
theorem good_f (p : Nat) (hp : p < 12) : axis_Operator_Good.f (p : Int) = some true := by
 unfold axis_Operator_Good.f
 simp
 omega
end
end Go.Proofs.YtaeenefdbahfoaaDoor
