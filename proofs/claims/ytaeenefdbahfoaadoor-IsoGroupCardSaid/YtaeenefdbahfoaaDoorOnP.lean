/- (Lattice).On at hexagons and where it refuses. -/
import Derived.Test.YtaeenefdbahfoaaDoorOpOn
namespace Go.Proofs.YtaeenefdbahfoaaDoor
open Go.RowKit Go.Proofs.YtaeenefdbahfoaaDoorW.PrintWords Go.Proofs.YtaeenefdbahfoaaDoorW.PrintLast Go.Proofs.YtaeenefdbahfoaaDoorW.PrintMore
open H
open Go.Shelf Go.RowKit Go.Lib Go.Sort

set_option maxRecDepth 100000 in
set_option maxHeartbeats 2000000 in
theorem on_refused (l o a b h c : Int) (w : World) (hc : checkR l a b h = some c) :
    Calls Tryd.prog 56 #[.int .i64 l, .int .i64 o, .agg #[.int .i64 a, .int .i64 b, .int .i64 h]] w fun e w' => e = .returned (.tuple #[.agg #[.int .i64 0, .int .i64 0, .int .i64 0], errW (some c)]) ∧ Below w.heap.size w w' := by
  have hck := fun W => check_any l a b h W
  simp only [hc, errW_some] at hck ⊢
  go_enter Tryd.func56, Tryd.ntmps56
  go_wp2_with fail
  obtain ⟨w2, hw2, hcc, _, hsz, hB2⟩ := two_new w #[.int .i64 a, .int .i64 b, .int .i64 h] #[.int .i64 0, .int .i64 0, .int .i64 0] 65 65
  have hz0 : w.heap.size < w2.heap.size := by omega
  have hrb : w2.heap[w.heap.size + 1]? = some (.cells #[.int .i64 0, .int .i64 0, .int .i64 0] 65 (0, 0)) := by
    rw [hw2]
    have := blk_new (w.alloc (.cells #[.int .i64 a, .int .i64 b, .int .i64 h] 65)) (.cells #[.int .i64 0, .int .i64 0, .int .i64 0] 65 (0, 0))
    simpa using this
  rw [← hw2]
  clear hw2
  have d0 : w2.cell? ⟨w.heap.size, 0, none⟩ = some (.int .i64 a) := hcc 0 _ rfl
  have d1 : w2.cell? ⟨w.heap.size, 1, none⟩ = some (.int .i64 b) := hcc 1 _ rfl
  have d2 : w2.cell? ⟨w.heap.size, 2, none⟩ = some (.int .i64 h) := hcc 2 _ rfl
  have HB2 := Aside0.mk hB2
  have RB := Aside0.mk hrb
  clear hcc hB2 hrb
  go_wp2_with (first
      | (go_at_call 81; refine (hck _).mono ?_; rintro e w3 ⟨rfl, hb3⟩
         have hr3 := blk_below RB.out hb3
         have q0 := blk_cell hr3 0
         have q1 := blk_cell hr3 1
         have q2 := blk_cell hr3 2
         have q3 := blk_frozen hr3
         have d0 := pw_cell_below hb3 d0
         have d1 := pw_cell_below hb3 d1
         have d2 := pw_cell_below hb3 d2
         have RB3 := Aside0.mk hr3
         have HB3 := Aside0.mk (HB2.out.trans (hb3.mono HB2.out.size))
         clear hr3 hb3))
  have hr := blk_set (blk_set (blk_set RB3.out 0 (.int .i64 (0))) 1 (.int .i64 (0))) 2 (.int .i64 (0))
  refine bodyPost_ret (results_ct rfl _ _ (w.heap.size + 1) 65 #[.int .i64 (0), .int .i64 (0), .int .i64 (0)] (0, 0) _ rfl hr Tryd.underlying65 rfl (by kernel_rfl)) rfl ⟨rfl, ?_⟩
  exact (Below.setCell (p := ⟨w.heap.size + 1, 2, none⟩) (Below.setCell (p := ⟨w.heap.size + 1, 1, none⟩) (Below.setCell (p := ⟨w.heap.size + 1, 0, none⟩) HB3.out (Nat.le_succ _) _) (Nat.le_succ _) _) (Nat.le_succ _) _)

set_option maxRecDepth 100000 in
set_option maxHeartbeats 2000000 in
theorem on_badop (l o a b h : Int) (w : World) (hc : checkR l a b h = none) (ho : ¬ (0 ≤ o ∧ o < 12)) :
    Calls Tryd.prog 56 #[.int .i64 l, .int .i64 o, .agg #[.int .i64 a, .int .i64 b, .int .i64 h]] w fun e w' => e = .returned (.tuple #[.agg #[.int .i64 0, .int .i64 0, .int .i64 0], errW (some 4)]) ∧ Below w.heap.size w w' := by
  have hck := fun W => check_any l a b h W
  simp only [hc, errW_none, errW_some] at hck ⊢
  have hog := fun W => opgood_any o W
  simp only [decide_eq_false ho] at hog
  go_enter Tryd.func56, Tryd.ntmps56
  go_wp2_with fail
  obtain ⟨w2, hw2, hcc, _, hsz, hB2⟩ := two_new w #[.int .i64 a, .int .i64 b, .int .i64 h] #[.int .i64 0, .int .i64 0, .int .i64 0] 65 65
  have hz0 : w.heap.size < w2.heap.size := by omega
  have hrb : w2.heap[w.heap.size + 1]? = some (.cells #[.int .i64 0, .int .i64 0, .int .i64 0] 65 (0, 0)) := by
    rw [hw2]
    have := blk_new (w.alloc (.cells #[.int .i64 a, .int .i64 b, .int .i64 h] 65)) (.cells #[.int .i64 0, .int .i64 0, .int .i64 0] 65 (0, 0))
    simpa using this
  rw [← hw2]
  clear hw2
  have d0 : w2.cell? ⟨w.heap.size, 0, none⟩ = some (.int .i64 a) := hcc 0 _ rfl
  have d1 : w2.cell? ⟨w.heap.size, 1, none⟩ = some (.int .i64 b) := hcc 1 _ rfl
  have d2 : w2.cell? ⟨w.heap.size, 2, none⟩ = some (.int .i64 h) := hcc 2 _ rfl
  have HB2 := Aside0.mk hB2
  have RB := Aside0.mk hrb
  clear hcc hB2 hrb
  go_wp2_with (first
      | (go_at_call 81; refine (hck _).mono ?_; rintro e w3 ⟨rfl, hb3⟩
         have hr3 := blk_below RB.out hb3
         have q0 := blk_cell hr3 0
         have q1 := blk_cell hr3 1
         have q2 := blk_cell hr3 2
         have q3 := blk_frozen hr3
         have d0 := pw_cell_below hb3 d0
         have d1 := pw_cell_below hb3 d1
         have d2 := pw_cell_below hb3 d2
         have RB3 := Aside0.mk hr3
         have HB3 := Aside0.mk (HB2.out.trans (hb3.mono HB2.out.size))
         clear hr3 hb3)
      | (go_at_call 44; refine (hog _).mono ?_; rintro e w3' ⟨rfl, rfl⟩))
  have hr := blk_set (blk_set (blk_set RB3.out 0 (.int .i64 (0))) 1 (.int .i64 (0))) 2 (.int .i64 (0))
  refine bodyPost_ret (results_ct rfl _ _ (w.heap.size + 1) 65 #[.int .i64 (0), .int .i64 (0), .int .i64 (0)] (0, 0) _ rfl hr Tryd.underlying65 rfl (by kernel_rfl)) rfl ⟨rfl, ?_⟩
  exact (Below.setCell (p := ⟨w.heap.size + 1, 2, none⟩) (Below.setCell (p := ⟨w.heap.size + 1, 1, none⟩) (Below.setCell (p := ⟨w.heap.size + 1, 0, none⟩) HB3.out (Nat.le_succ _) _) (Nat.le_succ _) _) (Nat.le_succ _) _)

set_option maxRecDepth 100000 in
set_option maxHeartbeats 2000000 in
theorem onH_any (o a b h : Int) (hh : h = 0) (w : World) (hg : goodP a b) (ho : 0 ≤ o) (ho' : o < 12) :
    Calls Tryd.prog 56 #[.int .i64 1, .int .i64 o, .agg #[.int .i64 a, .int .i64 b, .int .i64 h]] w fun e w' => (if goodP (onP o a b).1 (onP o a b).2 then e = .returned (.tuple #[.agg #[.int .i64 (onP o a b).1, .int .i64 (onP o a b).2, .int .i64 0], .nilIface]) else e = .returned (.tuple #[.agg #[.int .i64 0, .int .i64 0, .int .i64 0], errW (some 6)])) ∧ Below w.heap.size w w' := by
  have hc : checkR 1 a b h = none := by
    unfold checkR
    rw [hh, if_pos ⟨by omega, by omega⟩, if_neg (by decide), if_pos hg]
  clear hh
  have hck := fun W => check_any 1 a b h W
  simp only [hc, errW_none, errW_some] at hck ⊢
  have hog := fun W => opgood_any o W
  simp only [decide_eq_true (And.intro ho ho')] at hog
  have hop := fun W => opOn_any o a b W
  unfold opOnR at hop
  rw [if_pos ⟨ho, ho'⟩, if_pos hg] at hop
  by_cases hq : goodP (onP o a b).1 (onP o a b).2
  all_goals
    simp only [hq, ↓reduceIte, errW_some] at hop ⊢
    clear hq
    generalize (onP o a b).1 = x at hop ⊢
    generalize (onP o a b).2 = y at hop ⊢
    go_enter Tryd.func56, Tryd.ntmps56
    go_wp2_with fail
    obtain ⟨w2, hw2, hcc, _, hsz, hB2⟩ := two_new w #[.int .i64 a, .int .i64 b, .int .i64 h] #[.int .i64 0, .int .i64 0, .int .i64 0] 65 65
    have hz0 : w.heap.size < w2.heap.size := by omega
    have hrb : w2.heap[w.heap.size + 1]? = some (.cells #[.int .i64 0, .int .i64 0, .int .i64 0] 65 (0, 0)) := by
      rw [hw2]
      have := blk_new (w.alloc (.cells #[.int .i64 a, .int .i64 b, .int .i64 h] 65)) (.cells #[.int .i64 0, .int .i64 0, .int .i64 0] 65 (0, 0))
      simpa using this
    rw [← hw2]
    clear hw2
    have d0 : w2.cell? ⟨w.heap.size, 0, none⟩ = some (.int .i64 a) := hcc 0 _ rfl
    have d1 : w2.cell? ⟨w.heap.size, 1, none⟩ = some (.int .i64 b) := hcc 1 _ rfl
    have d2 : w2.cell? ⟨w.heap.size, 2, none⟩ = some (.int .i64 h) := hcc 2 _ rfl
    have HB2 := Aside0.mk hB2
    have RB := Aside0.mk hrb
    clear hcc hB2 hrb
    go_wp2_with (first
      | (go_at_call 81; refine (hck _).mono ?_; rintro e w3 ⟨rfl, hb3⟩
         have hr3 := blk_below RB.out hb3
         have q0 := blk_cell hr3 0
         have q1 := blk_cell hr3 1
         have q2 := blk_cell hr3 2
         have q3 := blk_frozen hr3
         have d0 := pw_cell_below hb3 d0
         have d1 := pw_cell_below hb3 d1
         have d2 := pw_cell_below hb3 d2
         have RB3 := Aside0.mk hr3
         have HB3 := Aside0.mk (HB2.out.trans (hb3.mono HB2.out.size))
         clear hr3 hb3)
      | (go_at_call 44; refine (hog _).mono ?_; rintro e w3' ⟨rfl, rfl⟩)
      | (go_at_call 90; refine (hop _).mono ?_; rintro e w4 ⟨rfl, hb4⟩
         have hr4' := blk_below RB3.out hb4
         have q0 := blk_cell hr4' 0
         have q1 := blk_cell hr4' 1
         have q2 := blk_cell hr4' 2
         have q3 := blk_frozen hr4'
         have hzr : w.heap.size + 1 < w4.heap.size := blk_lt hr4'
         have RB4 := Aside0.mk hr4'
         have HB4 := Aside0.mk (HB3.out.trans (hb4.mono HB3.out.size))
         clear hb4 hr4'))
  · have hr := blk_alloc (blk_set (blk_set (blk_set RB4.out 0 (.int .i64 (x))) 1 (.int .i64 (y))) 2 (.int .i64 (0))) (.cells #[.int .i64 x, .int .i64 y] 63)
    refine bodyPost_ret (results_ct rfl _ _ (w.heap.size + 1) 65 #[.int .i64 (x), .int .i64 (y), .int .i64 (0)] (0, 0) _ rfl hr Tryd.underlying65 rfl (by kernel_rfl)) rfl ⟨rfl, ?_⟩
    exact below_alloc (Below.setCell (p := ⟨w.heap.size + 1, 2, none⟩) (Below.setCell (p := ⟨w.heap.size + 1, 1, none⟩) (Below.setCell (p := ⟨w.heap.size + 1, 0, none⟩) HB4.out (Nat.le_succ _) _) (Nat.le_succ _) _) (Nat.le_succ _) _) _
  · have hr := blk_alloc (blk_set (blk_set (blk_set RB4.out 0 (.int .i64 (0))) 1 (.int .i64 (0))) 2 (.int .i64 (0))) (.cells #[.int .i64 0, .int .i64 0] 63)
    refine bodyPost_ret (results_ct rfl _ _ (w.heap.size + 1) 65 #[.int .i64 (0), .int .i64 (0), .int .i64 (0)] (0, 0) _ rfl hr Tryd.underlying65 rfl (by kernel_rfl)) rfl ⟨rfl, ?_⟩
    exact below_alloc (Below.setCell (p := ⟨w.heap.size + 1, 2, none⟩) (Below.setCell (p := ⟨w.heap.size + 1, 1, none⟩) (Below.setCell (p := ⟨w.heap.size + 1, 0, none⟩) HB4.out (Nat.le_succ _) _) (Nat.le_succ _) _) (Nat.le_succ _) _) _

end Go.Proofs.YtaeenefdbahfoaaDoor
