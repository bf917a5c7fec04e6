/- Parts of the proof of IsoWitness, merged out of our texts by wip/tools/pack.py. -/
import Derived.Test.YtaeenefdbahfoaaDoorKIsoWitness10
import Derived.Test.YtaeenefdbahfoaaDoorKIsoWitness2
import Derived.Test.YtaeenefdbahfoaaDoorKIsoWitness1
import Derived.Test.YtaeenefdbahfoaaDoorKIsoWitness5
import Derived.Test.YtaeenefdbahfoaaDoorKIsoWitness6
import Derived.Test.YtaeenefdbahfoaaDoorKIsoWitness7
import Derived.BigRegion
import Derived.Deep.RegionHeld3
import Derived.Test.YtaeenefdbahfoaaDoorKIsoWitness3
import Derived.Test.YtaeenefdbahfoaaDoorKIsoWitness4
namespace Go.Proofs.YtaeenefdbahfoaaDoor
set_option linter.unusedSimpArgs false
set_option linter.unusedVariables false
set_option maxRecDepth 100000
set_option maxHeartbeats 16000000
open Go.RowKit Go.Proofs.YtaeenefdbahfoaaDoorW.PrintWords Go.Proofs.YtaeenefdbahfoaaDoorW.PrintLast Go.Proofs.YtaeenefdbahfoaaDoorW.PrintMore
open H
open Go.Shelf Go.Lib Go.Sort
theorem rcorn_bd (o a b h : Int) (ho : 0 ≤ o) (ho' : o < 12) (hg : goodP a b) (k : Nat) : (-4000000000000 ≤ (rcorn o a b h k).1 ∧ (rcorn o a b h k).1 ≤ 4000000000000) ∧ (-4000000000000 ≤ (rcorn o a b h k).2 ∧ (rcorn o a b h k).2 ≤ 4000000000000) := by
 obtain ⟨g1, g2, g3, g4⟩ := hg
 unfold rcorn
 have : (-2000000000000 ≤ (cornA a b h k).1 ∧ (cornA a b h k).1 ≤ 2000000000000) ∧ (-2000000000000 ≤ (cornA a b h k).2 ∧ (cornA a b h k).2 ≤ 2000000000000) := by
  unfold cornA
  split <;> split <;> (try split) <;> (simp only []; omega)
 exact rotO_bd o _ _ ho ho' this.1.1 this.1.2 this.2.1 this.2.2
theorem low_bd (q : Nat → Int × Int) (hq : ∀ k, (-4000000000000 ≤ (q k).1 ∧ (q k).1 ≤ 4000000000000) ∧ (-4000000000000 ≤ (q k).2 ∧ (q k).2 ≤ 4000000000000)) : ∀ k, k ≤ 3 → (-4000000000000 ≤ (lowK q k).1 ∧ (lowK q k).1 ≤ 1152921504606846976) ∧ (-4000000000000 ≤ (lowK q k).2.1 ∧ (lowK q k).2.1 ≤ 1152921504606846976) ∧ (-(8000000000000 * (k : Int)) ≤ (lowK q k).2.2 ∧ (lowK q k).2.2 ≤ 8000000000000 * (k : Int))
 | 0, _ => by simp [lowK]
 | k + 1, hk => by
  have := low_bd q hq k (by omega)
  have := hq k
  simp only [lowK]
  omega
theorem results_c {P : Program} {fn : Func} {p : Tmp} {ty : TypeId} (h : fn.results = #[.cell p ty]) (tmps : Array Value) (w : World) (g : Nat) (t : TypeId) (cs : Array Value) (fr : Nat × Nat) (d : TypeDesc)
    (hp : tmps.getD p undef = .pointer (some ⟨g, 0, none⟩)) (hg : w.heap[g]? = some (.cells cs t fr))
    (hu : P.underlying ty = some d) (hd : (match d with | .struct _ | .array _ _ => true | _ => false) = true) (hi : (P.info? ty).map (·.size) = some cs.size) :
    (results fn tmps).run P w = .ok (.agg cs) w := by
 have hp' : tmps[p]?.getD undef = .pointer (some ⟨g, 0, none⟩) := by simpa using hp
 simp [results, h, hp', asAddr, run_loadVar_row w g t ty cs fr d hg hu hd hi]
theorem blk_at {w : World} {n : Nat} (o : Obj) (h : w.heap.size = n) : (w.alloc o).heap[n]? = some o := by
 subst h
 exact heap_alloc_new w o
theorem refOnT_any (l o a b h : Int) (w : World) (hl : 2 ≤ l) (hl' : l ≤ 3) (ho : 0 ≤ o) (ho' : o < 12) (hg : goodP a b) (hh : h = 0 ∨ h = 1) :
    Calls Tryd.prog 101 #[.int .i64 l, .int .i64 o, .agg #[.int .i64 a, .int .i64 b, .int .i64 h]] w fun e w' => e = .returned (.agg #[.int .i64 (refOnT o a b h).1, .int .i64 (refOnT o a b h).2.1, .int .i64 (refOnT o a b h).2.2]) ∧ Below w.heap.size w w' := by
 have hq := rcorn_bd o a b h ho ho' hg
 have hlow := low_bd (rcorn o a b h) hq
 have HQ := Aside0.mk hq
 have HL := Aside0.mk hlow
 have HR := Aside0.mk (fun x y W => ref01On_any o x y W ho ho')
 obtain ⟨g1, g2, g3, g4⟩ := hg
 clear hq hlow
 unfold refOnT
 rcases hh with rfl | rfl
 ·go_enter Tryd.func101, Tryd.ntmps101
  go_wp2
  obtain ⟨W, hW⟩ : ∃ W, W = ((((((((w.alloc (.cells #[.int .i64 a, .int .i64 b, .int .i64 0] 60)).alloc (.cells #[.int .i64 0, .int .i64 0, .int .i64 0] 60)).alloc (.cells #[.int .i64 1152921504606846976, .int .i64 1152921504606846976] 2)).alloc (.cells #[.int .i64 a, .int .i64 b, .int .i64 0] 60)).alloc (.cells #[.int .i64 (a), .int .i64 (b)] 2)).alloc (.cells #[.int .i64 (a + 1), .int .i64 (b)] 2)).alloc (.cells #[.int .i64 (a), .int .i64 (b + 1)] 2)).alloc (.cells #[.slice (some ⟨w.heap.size + 1 + 1 + 1 + 1, 0, none⟩) 2 2, .slice (some ⟨w.heap.size + 1 + 1 + 1 + 1 + 1, 0, none⟩) 2 2, .slice (some ⟨w.heap.size + 1 + 1 + 1 + 1 + 1 + 1, 0, none⟩) 2 2] 111)) := ⟨_, rfl⟩
  have hBW : Below w.heap.size w W := by rw [hW]; exact (by with_reducible repeat (first | apply below_alloc | apply pw_below_drewN | apply below_drew | refine bset ?_ _ _ (by omega) _ | exact Below.refl _ _))
  have hzW : W.heap.size = w.heap.size + 1 + 1 + 1 + 1 + 1 + 1 + 1 + 1 := by rw [hW]; simp
  have hbR : W.heap[w.heap.size + 1]? = some (.cells #[.int .i64 0, .int .i64 0, .int .i64 0] 60 (0, 0)) := by
   rw [hW]
   exact blk_alloc (blk_alloc (blk_alloc (blk_alloc (blk_alloc (blk_alloc (blk_at _ (by simp)) _) _) _) _) _) _
  have hbL : W.heap[w.heap.size + 1 + 1]? = some (.cells #[.int .i64 1152921504606846976, .int .i64 1152921504606846976] 2 (0, 0)) := by
   rw [hW]
   exact blk_alloc (blk_alloc (blk_alloc (blk_alloc (blk_alloc (blk_at _ (by simp)) _) _) _) _) _
  have hbO : W.heap[w.heap.size + 1 + 1 + 1 + 1 + 1 + 1 + 1]? = some (.cells #[.slice (some ⟨w.heap.size + 1 + 1 + 1 + 1, 0, none⟩) 2 2, .slice (some ⟨w.heap.size + 1 + 1 + 1 + 1 + 1, 0, none⟩) 2 2, .slice (some ⟨w.heap.size + 1 + 1 + 1 + 1 + 1 + 1, 0, none⟩) 2 2] 111 (0, 0)) := by
   rw [hW]
   exact blk_at _ (by simp)
  have hb0 : W.heap[w.heap.size + 1 + 1 + 1 + 1]? = some (.cells #[.int .i64 (a), .int .i64 (b)] 2 (0, 0)) := by
   rw [hW]
   exact blk_alloc (blk_alloc (blk_alloc (blk_at _ (by simp)) _) _) _
  have hb1 : W.heap[w.heap.size + 1 + 1 + 1 + 1 + 1]? = some (.cells #[.int .i64 (a + 1), .int .i64 (b)] 2 (0, 0)) := by
   rw [hW]
   exact blk_alloc (blk_alloc (blk_at _ (by simp)) _) _
  have hb2 : W.heap[w.heap.size + 1 + 1 + 1 + 1 + 1 + 1]? = some (.cells #[.int .i64 (a), .int .i64 (b + 1)] 2 (0, 0)) := by
   rw [hW]
   exact blk_alloc (blk_at _ (by simp)) _
  rw [← hW]
  have BR := Aside0.mk hbR
  have BL := Aside0.mk hbL
  have BO := Aside0.mk hbO
  have B0 := Aside0.mk hb0
  have B1 := Aside0.mk hb1
  have B2 := Aside0.mk hb2
  have HBW := Aside0.mk hBW
  clear hW hBW hbR hbL hbO hb0 hb1 hb2
  go_loopw [10, 34] (fun sm i wr => ∃ k : Nat, k ≤ 3 ∧ i = .int .i64 k ∧ sm = .int .i64 (lowK (rcorn o a b 0) k).2.2 ∧ W.grownBy wr (some (w.heap.size + 1 + 1)) ∧ wr.heap[w.heap.size + 1 + 1]? = some (.cells #[.int .i64 (lowK (rcorn o a b 0) k).1, .int .i64 (lowK (rcorn o a b 0) k).2.1] 2 (0, 0))) (fun _ i _ => 3 - (intOf i).toNat)
  case atStart => exact ⟨0, by omega, rfl, rfl, ⟨rfl, rfl, rfl, Nat.le_refl _, fun _ _ _ => rfl⟩, BL.out⟩
  case round =>
   obtain ⟨k, hk, rfl, rfl, hG, hL⟩ := hrel
   have hbk := fun i hi hne => hG.block i hi hne
   have cO := (hG.block (w.heap.size + 1 + 1 + 1 + 1 + 1 + 1 + 1) (blk_lt BO.out) (by intro e; have := Option.some.inj e; omega)).trans BO.out
   have c0 := (hG.block (w.heap.size + 1 + 1 + 1 + 1) (blk_lt B0.out) (by intro e; have := Option.some.inj e; omega)).trans B0.out
   have c1 := (hG.block (w.heap.size + 1 + 1 + 1 + 1 + 1) (blk_lt B1.out) (by intro e; have := Option.some.inj e; omega)).trans B1.out
   have c2 := (hG.block (w.heap.size + 1 + 1 + 1 + 1 + 1 + 1) (blk_lt B2.out) (by intro e; have := Option.some.inj e; omega)).trans B2.out
   have l0 := blk_cell hL 0
   have l1 := blk_cell hL 1
   have lf := blk_frozen hL
   have GG := Aside0.mk hG
   have LL := Aside0.mk hL
   obtain ⟨⟨q1, q2⟩, ⟨q3, q4⟩⟩ := HQ.out k
   obtain ⟨⟨s1, s2⟩, ⟨s3, s4⟩, ⟨s5, s6⟩⟩ := HL.out k hk
   clear hbk hG hL
   by_cases hlt : k < 3
   ·have hk3 : k = 0 ∨ k = 1 ∨ k = 2 := by omega
    rcases hk3 with rfl | rfl | rfl
    ·have u0 := blk_cell cO 0
     have x0 := blk_cell c0 0
     have x1 := blk_cell c0 1
     have hr : ∀ W, Calls Tryd.prog 85 #[.int .i64 o, .int .i64 (a), .int .i64 (b)] W fun e w' => e = .returned (.tuple #[.int .i64 (rcorn o a b 0 0).1, .int .i64 (rcorn o a b 0 0).2]) ∧ ∃ n, w' = W.drewN n := fun W => HR.out (a) (b) W (by omega) (by omega) (by omega) (by omega)
     generalize hla : (lowK (rcorn o a b 0) 0).1 = la at *
     generalize hlb : (lowK (rcorn o a b 0) 0).2.1 = lb at *
     generalize hlc : (lowK (rcorn o a b 0) 0).2.2 = lc at *
     generalize hqa : (rcorn o a b 0 0).1 = qa at *
     generalize hqb : (rcorn o a b 0 0).2 = qb at *
     have EQ := Aside0.mk (And.intro hla (And.intro hlb (And.intro hlc (And.intro hqa hqb))))
     clear hla hlb hlc hqa hqb
     go_wp2_with fail
     go_quiet (first | (go_at_call 85; exact Calls.quiet_of (hr _)))
     go_wp2
     go_roundw
     case rel =>
      refine ⟨1, by omega, rfl, by rw [← EQ.out.2.2.1, ← EQ.out.2.2.2.1, ← EQ.out.2.2.2.2]; rfl, grownBy_set (grownBy_set (grownBy_drewN GG.out _) _ _) _ _, ?_⟩
      have hfin := blk_set (blk_set (blk_drewN LL.out nq) 0 (.int .i64 (min la qa))) 1 (.int .i64 (min lb qb))
      rw [← EQ.out.1, ← EQ.out.2.1, ← EQ.out.2.2.2.1, ← EQ.out.2.2.2.2] at hfin
      rw [EQ.out.1, EQ.out.2.1, EQ.out.2.2.2.1, EQ.out.2.2.2.2] at hfin
      show _ = some (Obj.cells #[.int .i64 (min (lowK (rcorn o a b 0) 0).1 (rcorn o a b 0 0).1), .int .i64 (min (lowK (rcorn o a b 0) 0).2.1 (rcorn o a b 0 0).2)] _ _)
      rw [EQ.out.1, EQ.out.2.1, EQ.out.2.2.2.1, EQ.out.2.2.2.2]
      exact hfin
     case measure => simp [intOf]
    ·have u0 := blk_cell cO 1
     have x0 := blk_cell c1 0
     have x1 := blk_cell c1 1
     have hr : ∀ W, Calls Tryd.prog 85 #[.int .i64 o, .int .i64 (a + 1), .int .i64 (b)] W fun e w' => e = .returned (.tuple #[.int .i64 (rcorn o a b 0 1).1, .int .i64 (rcorn o a b 0 1).2]) ∧ ∃ n, w' = W.drewN n := fun W => HR.out (a + 1) (b) W (by omega) (by omega) (by omega) (by omega)
     generalize hla : (lowK (rcorn o a b 0) 1).1 = la at *
     generalize hlb : (lowK (rcorn o a b 0) 1).2.1 = lb at *
     generalize hlc : (lowK (rcorn o a b 0) 1).2.2 = lc at *
     generalize hqa : (rcorn o a b 0 1).1 = qa at *
     generalize hqb : (rcorn o a b 0 1).2 = qb at *
     have EQ := Aside0.mk (And.intro hla (And.intro hlb (And.intro hlc (And.intro hqa hqb))))
     clear hla hlb hlc hqa hqb
     go_wp2_with fail
     go_quiet (first | (go_at_call 85; exact Calls.quiet_of (hr _)))
     go_wp2
     go_roundw
     case rel =>
      refine ⟨2, by omega, rfl, by rw [← EQ.out.2.2.1, ← EQ.out.2.2.2.1, ← EQ.out.2.2.2.2]; rfl, grownBy_set (grownBy_set (grownBy_drewN GG.out _) _ _) _ _, ?_⟩
      have hfin := blk_set (blk_set (blk_drewN LL.out nq) 0 (.int .i64 (min la qa))) 1 (.int .i64 (min lb qb))
      rw [← EQ.out.1, ← EQ.out.2.1, ← EQ.out.2.2.2.1, ← EQ.out.2.2.2.2] at hfin
      rw [EQ.out.1, EQ.out.2.1, EQ.out.2.2.2.1, EQ.out.2.2.2.2] at hfin
      show _ = some (Obj.cells #[.int .i64 (min (lowK (rcorn o a b 0) 1).1 (rcorn o a b 0 1).1), .int .i64 (min (lowK (rcorn o a b 0) 1).2.1 (rcorn o a b 0 1).2)] _ _)
      rw [EQ.out.1, EQ.out.2.1, EQ.out.2.2.2.1, EQ.out.2.2.2.2]
      exact hfin
     case measure => simp [intOf]
    ·have u0 := blk_cell cO 2
     have x0 := blk_cell c2 0
     have x1 := blk_cell c2 1
     have hr : ∀ W, Calls Tryd.prog 85 #[.int .i64 o, .int .i64 (a), .int .i64 (b + 1)] W fun e w' => e = .returned (.tuple #[.int .i64 (rcorn o a b 0 2).1, .int .i64 (rcorn o a b 0 2).2]) ∧ ∃ n, w' = W.drewN n := fun W => HR.out (a) (b + 1) W (by omega) (by omega) (by omega) (by omega)
     generalize hla : (lowK (rcorn o a b 0) 2).1 = la at *
     generalize hlb : (lowK (rcorn o a b 0) 2).2.1 = lb at *
     generalize hlc : (lowK (rcorn o a b 0) 2).2.2 = lc at *
     generalize hqa : (rcorn o a b 0 2).1 = qa at *
     generalize hqb : (rcorn o a b 0 2).2 = qb at *
     have EQ := Aside0.mk (And.intro hla (And.intro hlb (And.intro hlc (And.intro hqa hqb))))
     clear hla hlb hlc hqa hqb
     go_wp2_with fail
     go_quiet (first | (go_at_call 85; exact Calls.quiet_of (hr _)))
     go_wp2
     go_roundw
     case rel =>
      refine ⟨3, by omega, rfl, by rw [← EQ.out.2.2.1, ← EQ.out.2.2.2.1, ← EQ.out.2.2.2.2]; rfl, grownBy_set (grownBy_set (grownBy_drewN GG.out _) _ _) _ _, ?_⟩
      have hfin := blk_set (blk_set (blk_drewN LL.out nq) 0 (.int .i64 (min la qa))) 1 (.int .i64 (min lb qb))
      rw [← EQ.out.1, ← EQ.out.2.1, ← EQ.out.2.2.2.1, ← EQ.out.2.2.2.2] at hfin
      rw [EQ.out.1, EQ.out.2.1, EQ.out.2.2.2.1, EQ.out.2.2.2.2] at hfin
      show _ = some (Obj.cells #[.int .i64 (min (lowK (rcorn o a b 0) 2).1 (rcorn o a b 0 2).1), .int .i64 (min (lowK (rcorn o a b 0) 2).2.1 (rcorn o a b 0 2).2)] _ _)
      rw [EQ.out.1, EQ.out.2.1, EQ.out.2.2.2.1, EQ.out.2.2.2.2]
      exact hfin
     case measure => simp [intOf]
   ·obtain rfl : k = 3 := by omega
    have hb0 : (lowK (rcorn o a b 0) 3).1 ≤ (rcorn o a b 0 2).1 := Int.min_le_right _ _
    have hb1 : (lowK (rcorn o a b 0) 3).2.1 ≤ (rcorn o a b 0 2).2 := Int.min_le_right _ _
    obtain ⟨⟨_, r1⟩, ⟨_, r2⟩⟩ := HQ.out 2
    have t1 := Int.le_trans hb0 r1
    have t2 := Int.le_trans hb1 r2
    generalize hla : (lowK (rcorn o a b 0) 3).1 = la at *
    generalize hlb : (lowK (rcorn o a b 0) 3).2.1 = lb at *
    generalize hlc : (lowK (rcorn o a b 0) 3).2.2 = lc at *
    have EQ := Aside0.mk (And.intro hla (And.intro hlb hlc))
    clear hla hlb hlc
    have v1 : IntKind.i64.wrap (la + lb) = la + lb := by rw [IntKind.wrap_i64]; omega
    have v2 : IntKind.i64.wrap (3 * (la + lb)) = 3 * (la + lb) := by rw [IntKind.wrap_i64]; omega
    have v3 : IntKind.i64.wrap (lc - 3 * (la + lb)) = lc - 3 * (la + lb) := by rw [IntKind.wrap_i64]; omega
    have rB := (GG.out.block (w.heap.size + 1) (blk_lt BR.out) (by intro e; have := Option.some.inj e; omega)).trans BR.out
    have p0 := blk_cell rB 0
    have p1 := blk_cell rB 1
    have p2 := blk_cell rB 2
    have pf := blk_frozen rB
    have RB := Aside0.mk rB
    clear rB
    go_wp2_with fail
    go_quiet (fail)
    go_wp2
    all_goals go_region
    all_goals go_wp2
    all_goals (first
     | (exfalso
        have e1 := EQ.out.1
        have e2 := EQ.out.2.1
        have e3 := EQ.out.2.2
        omega)
     | (have hr := blk_set (blk_set (blk_set (blk_drewN RB.out (nq + 1)) 0 (.int .i64 la)) 1 (.int .i64 lb)) 2 (.int .i64 1)
        refine bodyPost_ret (results_c rfl _ _ (w.heap.size + 1) 60 #[.int .i64 la, .int .i64 lb, .int .i64 1] (0, 0) _ rfl hr Tryd.underlying60 rfl (by kernel_rfl)) rfl ⟨(by rw [EQ.out.1, EQ.out.2.1]), ?_⟩
        refine Below.setCell (p := ⟨w.heap.size + 1, 2, none⟩) (Below.setCell (p := ⟨w.heap.size + 1, 1, none⟩) (Below.setCell (p := ⟨w.heap.size + 1, 0, none⟩) (pw_below_drewN ?_ _) (Nat.le_succ _) _) (Nat.le_succ _) _) (Nat.le_succ _) _
        exact pw_below_grown HBW.out _ HBW.out.size GG.out (fun k hk => by have := Option.some.inj hk; omega))
     | (have hr := blk_set (blk_set (blk_set (blk_drewN RB.out (nq + 1)) 0 (.int .i64 la)) 1 (.int .i64 lb)) 2 (.int .i64 0)
        refine bodyPost_ret (results_c rfl _ _ (w.heap.size + 1) 60 #[.int .i64 la, .int .i64 lb, .int .i64 0] (0, 0) _ rfl hr Tryd.underlying60 rfl (by kernel_rfl)) rfl ⟨(by rw [EQ.out.1, EQ.out.2.1]), ?_⟩
        refine Below.setCell (p := ⟨w.heap.size + 1, 2, none⟩) (Below.setCell (p := ⟨w.heap.size + 1, 1, none⟩) (Below.setCell (p := ⟨w.heap.size + 1, 0, none⟩) (pw_below_drewN ?_ _) (Nat.le_succ _) _) (Nat.le_succ _) _) (Nat.le_succ _) _
        exact pw_below_grown HBW.out _ HBW.out.size GG.out (fun k hk => by have := Option.some.inj hk; omega)))
 ·go_enter Tryd.func101, Tryd.ntmps101
  go_wp2
  obtain ⟨W, hW⟩ : ∃ W, W = ((((((((w.alloc (.cells #[.int .i64 a, .int .i64 b, .int .i64 1] 60)).alloc (.cells #[.int .i64 0, .int .i64 0, .int .i64 0] 60)).alloc (.cells #[.int .i64 1152921504606846976, .int .i64 1152921504606846976] 2)).alloc (.cells #[.int .i64 a, .int .i64 b, .int .i64 1] 60)).alloc (.cells #[.int .i64 (a + 1), .int .i64 (b)] 2)).alloc (.cells #[.int .i64 (a), .int .i64 (b + 1)] 2)).alloc (.cells #[.int .i64 (a + 1), .int .i64 (b + 1)] 2)).alloc (.cells #[.slice (some ⟨w.heap.size + 1 + 1 + 1 + 1, 0, none⟩) 2 2, .slice (some ⟨w.heap.size + 1 + 1 + 1 + 1 + 1, 0, none⟩) 2 2, .slice (some ⟨w.heap.size + 1 + 1 + 1 + 1 + 1 + 1, 0, none⟩) 2 2] 111)) := ⟨_, rfl⟩
  have hBW : Below w.heap.size w W := by rw [hW]; exact (by with_reducible repeat (first | apply below_alloc | apply pw_below_drewN | apply below_drew | refine bset ?_ _ _ (by omega) _ | exact Below.refl _ _))
  have hzW : W.heap.size = w.heap.size + 1 + 1 + 1 + 1 + 1 + 1 + 1 + 1 := by rw [hW]; simp
  have hbR : W.heap[w.heap.size + 1]? = some (.cells #[.int .i64 0, .int .i64 0, .int .i64 0] 60 (0, 0)) := by
   rw [hW]
   exact blk_alloc (blk_alloc (blk_alloc (blk_alloc (blk_alloc (blk_alloc (blk_at _ (by simp)) _) _) _) _) _) _
  have hbL : W.heap[w.heap.size + 1 + 1]? = some (.cells #[.int .i64 1152921504606846976, .int .i64 1152921504606846976] 2 (0, 0)) := by
   rw [hW]
   exact blk_alloc (blk_alloc (blk_alloc (blk_alloc (blk_alloc (blk_at _ (by simp)) _) _) _) _) _
  have hbO : W.heap[w.heap.size + 1 + 1 + 1 + 1 + 1 + 1 + 1]? = some (.cells #[.slice (some ⟨w.heap.size + 1 + 1 + 1 + 1, 0, none⟩) 2 2, .slice (some ⟨w.heap.size + 1 + 1 + 1 + 1 + 1, 0, none⟩) 2 2, .slice (some ⟨w.heap.size + 1 + 1 + 1 + 1 + 1 + 1, 0, none⟩) 2 2] 111 (0, 0)) := by
   rw [hW]
   exact blk_at _ (by simp)
  have hb0 : W.heap[w.heap.size + 1 + 1 + 1 + 1]? = some (.cells #[.int .i64 (a + 1), .int .i64 (b)] 2 (0, 0)) := by
   rw [hW]
   exact blk_alloc (blk_alloc (blk_alloc (blk_at _ (by simp)) _) _) _
  have hb1 : W.heap[w.heap.size + 1 + 1 + 1 + 1 + 1]? = some (.cells #[.int .i64 (a), .int .i64 (b + 1)] 2 (0, 0)) := by
   rw [hW]
   exact blk_alloc (blk_alloc (blk_at _ (by simp)) _) _
  have hb2 : W.heap[w.heap.size + 1 + 1 + 1 + 1 + 1 + 1]? = some (.cells #[.int .i64 (a + 1), .int .i64 (b + 1)] 2 (0, 0)) := by
   rw [hW]
   exact blk_alloc (blk_at _ (by simp)) _
  rw [← hW]
  have BR := Aside0.mk hbR
  have BL := Aside0.mk hbL
  have BO := Aside0.mk hbO
  have B0 := Aside0.mk hb0
  have B1 := Aside0.mk hb1
  have B2 := Aside0.mk hb2
  have HBW := Aside0.mk hBW
  clear hW hBW hbR hbL hbO hb0 hb1 hb2
  go_loopw [10, 34] (fun sm i wr => ∃ k : Nat, k ≤ 3 ∧ i = .int .i64 k ∧ sm = .int .i64 (lowK (rcorn o a b 1) k).2.2 ∧ W.grownBy wr (some (w.heap.size + 1 + 1)) ∧ wr.heap[w.heap.size + 1 + 1]? = some (.cells #[.int .i64 (lowK (rcorn o a b 1) k).1, .int .i64 (lowK (rcorn o a b 1) k).2.1] 2 (0, 0))) (fun _ i _ => 3 - (intOf i).toNat)
  case atStart => exact ⟨0, by omega, rfl, rfl, ⟨rfl, rfl, rfl, Nat.le_refl _, fun _ _ _ => rfl⟩, BL.out⟩
  case round =>
   obtain ⟨k, hk, rfl, rfl, hG, hL⟩ := hrel
   have hbk := fun i hi hne => hG.block i hi hne
   have cO := (hG.block (w.heap.size + 1 + 1 + 1 + 1 + 1 + 1 + 1) (blk_lt BO.out) (by intro e; have := Option.some.inj e; omega)).trans BO.out
   have c0 := (hG.block (w.heap.size + 1 + 1 + 1 + 1) (blk_lt B0.out) (by intro e; have := Option.some.inj e; omega)).trans B0.out
   have c1 := (hG.block (w.heap.size + 1 + 1 + 1 + 1 + 1) (blk_lt B1.out) (by intro e; have := Option.some.inj e; omega)).trans B1.out
   have c2 := (hG.block (w.heap.size + 1 + 1 + 1 + 1 + 1 + 1) (blk_lt B2.out) (by intro e; have := Option.some.inj e; omega)).trans B2.out
   have l0 := blk_cell hL 0
   have l1 := blk_cell hL 1
   have lf := blk_frozen hL
   have GG := Aside0.mk hG
   have LL := Aside0.mk hL
   obtain ⟨⟨q1, q2⟩, ⟨q3, q4⟩⟩ := HQ.out k
   obtain ⟨⟨s1, s2⟩, ⟨s3, s4⟩, ⟨s5, s6⟩⟩ := HL.out k hk
   clear hbk hG hL
   by_cases hlt : k < 3
   ·have hk3 : k = 0 ∨ k = 1 ∨ k = 2 := by omega
    rcases hk3 with rfl | rfl | rfl
    ·have u0 := blk_cell cO 0
     have x0 := blk_cell c0 0
     have x1 := blk_cell c0 1
     have hr : ∀ W, Calls Tryd.prog 85 #[.int .i64 o, .int .i64 (a + 1), .int .i64 (b)] W fun e w' => e = .returned (.tuple #[.int .i64 (rcorn o a b 1 0).1, .int .i64 (rcorn o a b 1 0).2]) ∧ ∃ n, w' = W.drewN n := fun W => HR.out (a + 1) (b) W (by omega) (by omega) (by omega) (by omega)
     generalize hla : (lowK (rcorn o a b 1) 0).1 = la at *
     generalize hlb : (lowK (rcorn o a b 1) 0).2.1 = lb at *
     generalize hlc : (lowK (rcorn o a b 1) 0).2.2 = lc at *
     generalize hqa : (rcorn o a b 1 0).1 = qa at *
     generalize hqb : (rcorn o a b 1 0).2 = qb at *
     have EQ := Aside0.mk (And.intro hla (And.intro hlb (And.intro hlc (And.intro hqa hqb))))
     clear hla hlb hlc hqa hqb
     go_wp2_with fail
     go_quiet (first | (go_at_call 85; exact Calls.quiet_of (hr _)))
     go_wp2
     go_roundw
     case rel =>
      refine ⟨1, by omega, rfl, by rw [← EQ.out.2.2.1, ← EQ.out.2.2.2.1, ← EQ.out.2.2.2.2]; rfl, grownBy_set (grownBy_set (grownBy_drewN GG.out _) _ _) _ _, ?_⟩
      have hfin := blk_set (blk_set (blk_drewN LL.out nq) 0 (.int .i64 (min la qa))) 1 (.int .i64 (min lb qb))
      rw [← EQ.out.1, ← EQ.out.2.1, ← EQ.out.2.2.2.1, ← EQ.out.2.2.2.2] at hfin
      rw [EQ.out.1, EQ.out.2.1, EQ.out.2.2.2.1, EQ.out.2.2.2.2] at hfin
      show _ = some (Obj.cells #[.int .i64 (min (lowK (rcorn o a b 1) 0).1 (rcorn o a b 1 0).1), .int .i64 (min (lowK (rcorn o a b 1) 0).2.1 (rcorn o a b 1 0).2)] _ _)
      rw [EQ.out.1, EQ.out.2.1, EQ.out.2.2.2.1, EQ.out.2.2.2.2]
      exact hfin
     case measure => simp [intOf]
    ·have u0 := blk_cell cO 1
     have x0 := blk_cell c1 0
     have x1 := blk_cell c1 1
     have hr : ∀ W, Calls Tryd.prog 85 #[.int .i64 o, .int .i64 (a), .int .i64 (b + 1)] W fun e w' => e = .returned (.tuple #[.int .i64 (rcorn o a b 1 1).1, .int .i64 (rcorn o a b 1 1).2]) ∧ ∃ n, w' = W.drewN n := fun W => HR.out (a) (b + 1) W (by omega) (by omega) (by omega) (by omega)
     generalize hla : (lowK (rcorn o a b 1) 1).1 = la at *
     generalize hlb : (lowK (rcorn o a b 1) 1).2.1 = lb at *
     generalize hlc : (lowK (rcorn o a b 1) 1).2.2 = lc at *
     generalize hqa : (rcorn o a b 1 1).1 = qa at *
     generalize hqb : (rcorn o a b 1 1).2 = qb at *
     have EQ := Aside0.mk (And.intro hla (And.intro hlb (And.intro hlc (And.intro hqa hqb))))
     clear hla hlb hlc hqa hqb
     go_wp2_with fail
     go_quiet (first | (go_at_call 85; exact Calls.quiet_of (hr _)))
     go_wp2
     go_roundw
     case rel =>
      refine ⟨2, by omega, rfl, by rw [← EQ.out.2.2.1, ← EQ.out.2.2.2.1, ← EQ.out.2.2.2.2]; rfl, grownBy_set (grownBy_set (grownBy_drewN GG.out _) _ _) _ _, ?_⟩
      have hfin := blk_set (blk_set (blk_drewN LL.out nq) 0 (.int .i64 (min la qa))) 1 (.int .i64 (min lb qb))
      rw [← EQ.out.1, ← EQ.out.2.1, ← EQ.out.2.2.2.1, ← EQ.out.2.2.2.2] at hfin
      rw [EQ.out.1, EQ.out.2.1, EQ.out.2.2.2.1, EQ.out.2.2.2.2] at hfin
      show _ = some (Obj.cells #[.int .i64 (min (lowK (rcorn o a b 1) 1).1 (rcorn o a b 1 1).1), .int .i64 (min (lowK (rcorn o a b 1) 1).2.1 (rcorn o a b 1 1).2)] _ _)
      rw [EQ.out.1, EQ.out.2.1, EQ.out.2.2.2.1, EQ.out.2.2.2.2]
      exact hfin
     case measure => simp [intOf]
    ·have u0 := blk_cell cO 2
     have x0 := blk_cell c2 0
     have x1 := blk_cell c2 1
     have hr : ∀ W, Calls Tryd.prog 85 #[.int .i64 o, .int .i64 (a + 1), .int .i64 (b + 1)] W fun e w' => e = .returned (.tuple #[.int .i64 (rcorn o a b 1 2).1, .int .i64 (rcorn o a b 1 2).2]) ∧ ∃ n, w' = W.drewN n := fun W => HR.out (a + 1) (b + 1) W (by omega) (by omega) (by omega) (by omega)
     generalize hla : (lowK (rcorn o a b 1) 2).1 = la at *
     generalize hlb : (lowK (rcorn o a b 1) 2).2.1 = lb at *
     generalize hlc : (lowK (rcorn o a b 1) 2).2.2 = lc at *
     generalize hqa : (rcorn o a b 1 2).1 = qa at *
     generalize hqb : (rcorn o a b 1 2).2 = qb at *
     have EQ := Aside0.mk (And.intro hla (And.intro hlb (And.intro hlc (And.intro hqa hqb))))
     clear hla hlb hlc hqa hqb
     go_wp2_with fail
     go_quiet (first | (go_at_call 85; exact Calls.quiet_of (hr _)))
     go_wp2
     go_roundw
     case rel =>
      refine ⟨3, by omega, rfl, by rw [← EQ.out.2.2.1, ← EQ.out.2.2.2.1, ← EQ.out.2.2.2.2]; rfl, grownBy_set (grownBy_set (grownBy_drewN GG.out _) _ _) _ _, ?_⟩
      have hfin := blk_set (blk_set (blk_drewN LL.out nq) 0 (.int .i64 (min la qa))) 1 (.int .i64 (min lb qb))
      rw [← EQ.out.1, ← EQ.out.2.1, ← EQ.out.2.2.2.1, ← EQ.out.2.2.2.2] at hfin
      rw [EQ.out.1, EQ.out.2.1, EQ.out.2.2.2.1, EQ.out.2.2.2.2] at hfin
      show _ = some (Obj.cells #[.int .i64 (min (lowK (rcorn o a b 1) 2).1 (rcorn o a b 1 2).1), .int .i64 (min (lowK (rcorn o a b 1) 2).2.1 (rcorn o a b 1 2).2)] _ _)
      rw [EQ.out.1, EQ.out.2.1, EQ.out.2.2.2.1, EQ.out.2.2.2.2]
      exact hfin
     case measure => simp [intOf]
   ·obtain rfl : k = 3 := by omega
    have hb0 : (lowK (rcorn o a b 1) 3).1 ≤ (rcorn o a b 1 2).1 := Int.min_le_right _ _
    have hb1 : (lowK (rcorn o a b 1) 3).2.1 ≤ (rcorn o a b 1 2).2 := Int.min_le_right _ _
    obtain ⟨⟨_, r1⟩, ⟨_, r2⟩⟩ := HQ.out 2
    have t1 := Int.le_trans hb0 r1
    have t2 := Int.le_trans hb1 r2
    generalize hla : (lowK (rcorn o a b 1) 3).1 = la at *
    generalize hlb : (lowK (rcorn o a b 1) 3).2.1 = lb at *
    generalize hlc : (lowK (rcorn o a b 1) 3).2.2 = lc at *
    have EQ := Aside0.mk (And.intro hla (And.intro hlb hlc))
    clear hla hlb hlc
    have v1 : IntKind.i64.wrap (la + lb) = la + lb := by rw [IntKind.wrap_i64]; omega
    have v2 : IntKind.i64.wrap (3 * (la + lb)) = 3 * (la + lb) := by rw [IntKind.wrap_i64]; omega
    have v3 : IntKind.i64.wrap (lc - 3 * (la + lb)) = lc - 3 * (la + lb) := by rw [IntKind.wrap_i64]; omega
    have rB := (GG.out.block (w.heap.size + 1) (blk_lt BR.out) (by intro e; have := Option.some.inj e; omega)).trans BR.out
    have p0 := blk_cell rB 0
    have p1 := blk_cell rB 1
    have p2 := blk_cell rB 2
    have pf := blk_frozen rB
    have RB := Aside0.mk rB
    clear rB
    go_wp2_with fail
    go_quiet (fail)
    go_wp2
    all_goals go_region
    all_goals go_wp2
    all_goals (first
     | (exfalso
        have e1 := EQ.out.1
        have e2 := EQ.out.2.1
        have e3 := EQ.out.2.2
        omega)
     | (have hr := blk_set (blk_set (blk_set (blk_drewN RB.out (nq + 1)) 0 (.int .i64 la)) 1 (.int .i64 lb)) 2 (.int .i64 1)
        refine bodyPost_ret (results_c rfl _ _ (w.heap.size + 1) 60 #[.int .i64 la, .int .i64 lb, .int .i64 1] (0, 0) _ rfl hr Tryd.underlying60 rfl (by kernel_rfl)) rfl ⟨(by rw [EQ.out.1, EQ.out.2.1]), ?_⟩
        refine Below.setCell (p := ⟨w.heap.size + 1, 2, none⟩) (Below.setCell (p := ⟨w.heap.size + 1, 1, none⟩) (Below.setCell (p := ⟨w.heap.size + 1, 0, none⟩) (pw_below_drewN ?_ _) (Nat.le_succ _) _) (Nat.le_succ _) _) (Nat.le_succ _) _
        exact pw_below_grown HBW.out _ HBW.out.size GG.out (fun k hk => by have := Option.some.inj hk; omega))
     | (have hr := blk_set (blk_set (blk_set (blk_drewN RB.out (nq + 1)) 0 (.int .i64 la)) 1 (.int .i64 lb)) 2 (.int .i64 0)
        refine bodyPost_ret (results_c rfl _ _ (w.heap.size + 1) 60 #[.int .i64 la, .int .i64 lb, .int .i64 0] (0, 0) _ rfl hr Tryd.underlying60 rfl (by kernel_rfl)) rfl ⟨(by rw [EQ.out.1, EQ.out.2.1]), ?_⟩
        refine Below.setCell (p := ⟨w.heap.size + 1, 2, none⟩) (Below.setCell (p := ⟨w.heap.size + 1, 1, none⟩) (Below.setCell (p := ⟨w.heap.size + 1, 0, none⟩) (pw_below_drewN ?_ _) (Nat.le_succ _) _) (Nat.le_succ _) _) (Nat.le_succ _) _
        exact pw_below_grown HBW.out _ HBW.out.size GG.out (fun k hk => by have := Option.some.inj hk; omega)))
theorem rot_onP (o a b : Int) (ho : 0 ≤ o) (ho' : o < 12) : onP o a b = rotO o a b := by
 have : o = 0 ∨ o = 1 ∨ o = 2 ∨ o = 3 ∨ o = 4 ∨ o = 5 ∨ o = 6 ∨ o = 7 ∨ o = 8 ∨ o = 9 ∨ o = 10 ∨ o = 11 := by omega
 rcases this with rfl | rfl | rfl | rfl | rfl | rfl | rfl | rfl | rfl | rfl | rfl | rfl <;>
  (simp [onP, matO, turns, turnM, mat0, rotO, rotN, rot0, turnP, Prod.mk.injEq]; try omega)
theorem refOnH_any (o a b h : Int) (w : World) (hg : goodP a b) (ho : 0 ≤ o) (ho' : o < 12) :
    Calls Tryd.prog 101 #[.int .i64 1, .int .i64 o, .agg #[.int .i64 a, .int .i64 b, .int .i64 h]] w fun e w' => e = .returned (.agg #[.int .i64 (rotO o a b).1, .int .i64 (rotO o a b).2, .int .i64 0]) ∧ Below w.heap.size w w' := by
 have hr := fun W => ref01On_any o a b W ho ho' (by have := hg.1; omega) (by have := hg.2.1; omega) (by have := hg.2.2.1; omega) (by have := hg.2.2.2; omega)
 generalize (rotO o a b).1 = x at hr ⊢
 generalize (rotO o a b).2 = y at hr ⊢
 go_enter Tryd.func101, Tryd.ntmps101
 go_wp2_with (go_at_call 85; refine (hr _).mono ?_; rintro e w' ⟨rfl, ⟨n, rfl⟩⟩)
 exact bodyPost_ret (v := .agg #[.int .i64 x, .int .i64 y, .int .i64 0]) (by simp [results, Tryd.results101, go_sem]) rfl ⟨rfl, (by with_reducible repeat (first | apply below_alloc | apply pw_below_drewN | apply below_drew | refine bset ?_ _ _ (by omega) _ | exact Below.refl _ _))⟩
def XROn.f (l o a b h : Int) : Option (Int × Int × Int) :=
 if (1 ≤ l ∧ l ≤ 3) ∧ (0 ≤ o ∧ o < 12) ∧ goodP a b ∧ (h = 0 ∨ h = 1) ∧ (l = 1 → h = 0) then some ((onC l o (mk a b h)).f0.f0, (onC l o (mk a b h)).f0.f1, (onC l o (mk a b h)).f1) else none
theorem XROn.calls (a0 : Int) (a1 : Int) (a2_0 : Int) (a2_1 : Int) (a2_2 : Int) (r1 : Int) (r2 : Int) (r3 : Int) (w : World) (h : XROn.f a0 a1 a2_0 a2_1 a2_2 = some (r1, r2, r3)) :
    Calls Tryd.prog 101 #[.int .i64 a0, .int .i64 a1, .agg #[.int .i64 a2_0, .int .i64 a2_1, .int .i64 a2_2]] w fun e w' => e = .returned (.agg #[.int .i64 r1, .int .i64 r2, .int .i64 r3]) ∧ Below w.heap.size w w' := by
 unfold XROn.f at h
 by_cases hc : (1 ≤ a0 ∧ a0 ≤ 3) ∧ (0 ≤ a1 ∧ a1 < 12) ∧ goodP a2_0 a2_1 ∧ (a2_2 = 0 ∨ a2_2 = 1) ∧ (a0 = 1 → a2_2 = 0)
 ·rw [if_pos hc] at h
  obtain ⟨⟨l1, l3⟩, ⟨o0, o1⟩, hg, hh, h1⟩ := hc
  have h := Option.some.inj h
  simp only [Prod.mk.injEq] at h
  obtain ⟨rfl, rfl, rfl⟩ := h
  unfold onC
  by_cases hl : a0 = 1
  ·subst hl
   simp only [↓reduceIte, mk]
   rw [rot_onP a1 a2_0 a2_1 o0 o1]
   exact refOnH_any a1 a2_0 a2_1 a2_2 w hg o0 o1
  ·simp only [if_neg hl, mk]
   have := refOnT_any a0 a1 a2_0 a2_1 a2_2 w (by omega) l3 o0 o1 hg hh
   rw [refOn_eq a1 a2_0 a2_1 a2_2 o0 o1 hg hh] at this
   exact this
 ·rw [if_neg hc] at h
  cases h
namespace H
attribute [local go_sem] max2_int min2_int max_two min_two max_three min_three max_four min_four
mutual
def honeycombref04_Turn.l0 : Nat → Int → Int → List (S60) → List (S60) → Int → Int → Option ((List (S60)) × Int × Int)
 | 0, _, _, _, _, _, _ => none
 | k + 1, x0, x1, x9, x15, x16, x17 => if x17 < x16 then (if 0 ≤ x17 then (if x17 < (x15.length : Int) then ((honeycombref03_Check.f k x0 ((rd_T60 x15 x17).f0) ((rd_T60 x15 x17).f1) ((rd_T60 x15 x17).f2)).bind fun t683 => (if t683 = 0 then (if x1 < 0 then (honeycombref04_Turn.j1 k x0 x1 x9 x15 x16 x17 true ((rd_T60 x15 x17).f0) ((rd_T60 x15 x17).f1) ((rd_T60 x15 x17).f2)) else (honeycombref04_Turn.j1 k x0 x1 x9 x15 x16 x17 (decide (x1 > 11)) ((rd_T60 x15 x17).f0) ((rd_T60 x15 x17).f1) ((rd_T60 x15 x17).f2))) else (none))) else (none)) else (none)) else ((honeycombref04_Of.f k x9).bind fun t678 => (some (t678, 0, (-1))))
def honeycombref04_Turn.j1 : Nat → Int → Int → List (S60) → List (S60) → Int → Int → Bool → Int → Int → Int → Option ((List (S60)) × Int × Int)
 | 0, _, _, _, _, _, _, _, _, _, _ => none
 | k + 1, x0, x1, x9, x15, x16, x17, x34, x683000, x683001, x683002 => if x34 = true then (none) else ((XROn.f x0 x1 x683000 x683001 x683002).bind fun bt684 => ((honeycombref01_Good.f bt684.1 bt684.2.1).bind fun t688 => (if t688 = true then (if x9.length < 5864062014805 then (honeycombref04_Turn.l0 k x0 x1 (x9 ++ [(⟨bt684.1, bt684.2.1, bt684.2.2⟩ : S60)]) x15 x16 (wrap64 (x17 + 1))) else (none)) else (none))))
end
def honeycombref04_Turn.f (k : Nat) (a0 : Int) (a1 : Int) (l2 : List (S60)) : Option ((List (S60)) × Int × Int) := honeycombref04_Turn.l0 k a0 a1 (([] : List (S60))) l2 (l2.length : Int) 0
theorem honeycombref04_Turn.calls (k : Nat) (a0 : Int) (a1 : Int) (A2 : Option Addr) (c2 : Nat) (l2 : List (S60)) (r1 : List (S60)) (r2 : Int) (r3 : Int) (w : World) (hr2 : Kd.C k60 w A2 l2.length l2) (hc2 : l2.length ≤ c2) (h : honeycombref04_Turn.f k a0 a1 l2 = some (r1, r2, r3)) :
  Calls Tryd.prog 79 #[.int .i64 a0, .int .i64 a1, .slice A2 l2.length c2] w fun e w' => ∃ v0_ : Value, e = .returned (.tuple #[v0_, .int .i64 r2, .int .i64 r3]) ∧ Kd.R k60 60 w' w.heap.size (fun _ => True) v0_ r1 ∧ Below w.heap.size w w' := by
 have hu60 := Tryd.underlying60
 have HR2 := Aside0.mk hr2
 have HC2 := Aside0.mk hc2
 clear hr2 hc2
 have HB := Aside0.mk (Below.refl w.heap.size w)
 have H : (honeycombref04_Turn.l0 k a0 a1 (([] : List (S60))) l2 (l2.length : Int) 0) = some (r1, r2, r3) := h
 clear h
 obtain ⟨y675, hy675⟩ : ∃ y_ : List (S60), y_ = (([] : List (S60))) := ⟨_, rfl⟩
 replace H : (honeycombref04_Turn.l0 k a0 a1 y675 l2 (l2.length : Int) 0) = some (r1, r2, r3) := by first | (rw [hy675]; with_reducible exact H) | (have H2_ := (Option.bind_some _ _).symm.trans H; rw [hy675]; with_reducible exact H2_) | (have H2_ := (Option.bind_some _ _).symm.trans H; with_reducible exact H2_) | with_reducible exact H | (rw [hy675]; exact H) | exact H
 have Ny675 := Aside0.mk hy675
 clear hy675
 have H' := Aside0.mk H
 clear H
 go_enter Tryd.func79, Tryd.ntmps79
 go_wp2_with (first | ((with_reducible refine gate_dst (N := 14) rfl ?_); refine rs1_ k60 60 14 ([] : List (S60)) [] (Reps.none _ _) ?_; intro v676 w4 ho5 hb; (first | rw [← Ny675.out] at ho5 | (simp only [Int.reduceToNat] at ho5; rw [← Ny675.out] at ho5)); have HO677 := Aside0.mk (Kd.R_lower ho5 (below_size hb_)); replace HB := Aside0.mk (below_step hb_ hb); clear hb ho5))
 go_loopg [9, 17] k (fun kq v9 v17 w' => ∃ (x9_1 : List (S60)) (x17_1 : Int), v17 = .int .i64 x17_1 ∧ Aside0 (honeycombref04_Turn.l0 kq a0 a1 x9_1 l2 (l2.length : Int) x17_1 = some (r1, r2, r3)) ∧ Aside0 (kq ≤ k) ∧ Aside0 (Kd.R k60 60 w' w.heap.size (fun _ => True) v9 x9_1) ∧ Aside0 (Below w.heap.size w w'))
 case atStart => exact ⟨(y675), (0), rs_, H', ⟨Nat.le_refl _⟩, ⟨kr_ HO677.out⟩, ⟨by repeat (first | (with_reducible first | exact HB.out | apply ba_ | apply bn_ | apply bd_) | exact HB.out)⟩⟩
 case round =>
  clear H'
  try clear c2
  try clear p2
  obtain ⟨x9_1, x17_1, rfl, HA, HK1, HO_9, HB⟩ := hrel
  cases gk with
  | zero => exact absurd HA.out (by simp [honeycombref04_Turn.l0])
  | succ k1 =>
   have H := HA.out
   clear HA
   simp only [honeycombref04_Turn.l0] at H
   by_cases c6 : x17_1 < (l2.length : Int)
   rotate_left
   ·
    rw [if_neg c6] at H
    have c6b0 : decide (x17_1 < (l2.length : Int)) = false := decide_eq_false c6
    clear c6
    replace H := Option.bind_eq_some_iff.mp H
    obtain ⟨t678, A270, H⟩ := H
    replace H : (some (t678, 0, (-1))) = some (r1, r2, r3) := H
    have A27 := Aside0.mk A270
    clear A270
    simp only [Option.some.injEq, Prod.mk.injEq] at H
    obtain ⟨rfl, rfl, rfl⟩ := H
    obtain ⟨Ao28, co28, eo28⟩ := Kd.R_slice HO_9.out
    subst eo28
    go_wp2_with (first | ((with_reducible refine gate_callee (f := 65) rfl ?_); refine goesL_ (some 53) rfl rfl Tryd.func65 (by kernel_rfl) rfl #[.slice Ao28 x9_1.length co28] rfl ar_ ?_; (with_reducible refine (honeycombref04_Of.calls k1 _ _ x9_1 t678 _ ?side1 ?side2 A27.out).mono ?_); (case side1 => repeat (first | exact (Kd.R_reads' HO_9.out).2.2 | (with_reducible refine Kd.C_alloc ?_ _) | (with_reducible refine Kd.C_drewN ?_ _) | (with_reducible refine Kd.C_drew ?_))); (case side2 => exact (Kd.R_reads' HO_9.out).2.1); rintro e w29 ⟨v679, rfl, ho0, hb⟩; refine ⟨_, rfl, ?_⟩; have HO680 := Aside0.mk (Kd.R_lower (Kd.R_new' ho0 (Kd.R_lt (kr_ HO_9.out))) (below_size hb_)); replace HO_9 := Aside0.mk (Kd.R_elder' (kr_ HO_9.out) (Kd.R_base ho0) hb); replace HB := Aside0.mk (below_step hb_ hb); (try clear hb); (try clear hb2); (try clear hk); (try clear hi); (try clear ho0)))
    go_ret3
    exact ⟨_, by first | rfl | (simp [errW_none, errW_some] <;> rfl) | (simp [*, errW_none, errW_some] <;> rfl), by (with_reducible repeat (first | apply Kd.R_alloc | apply Kd.R_drewN | apply Kd.R_drew)); exact Kd.R_mono HO680.out (fun _ hk => trivial), by repeat (first | (with_reducible first | exact HB.out | apply ba_ | apply bn_ | apply bd_) | exact HB.out)⟩
   rw [if_pos c6] at H
   have c6b0 : decide (x17_1 < (l2.length : Int)) = true := decide_eq_true c6
   clear c6
   by_cases c7 : 0 ≤ x17_1
   rotate_left
   ·
    rw [if_neg c7] at H
    exact absurd H (by simp)
   rw [if_pos c7] at H
   have c7b0 : decide (0 ≤ x17_1) = true := decide_eq_true c7
   clear c7
   by_cases c8 : x17_1 < (l2.length : Int)
   rotate_left
   ·
    rw [if_neg c8] at H
    exact absurd H (by simp)
   rw [if_pos c8] at H
   have c8b0 : decide (x17_1 < (l2.length : Int)) = true := decide_eq_true c8
   clear c8
   replace H := Option.bind_eq_some_iff.mp H
   obtain ⟨t683, A90, H⟩ := H
   replace H : (if t683 = 0 then (if a1 < 0 then (honeycombref04_Turn.j1 k1 a0 a1 x9_1 l2 (l2.length : Int) x17_1 true ((rd_T60 l2 x17_1).f0) ((rd_T60 l2 x17_1).f1) ((rd_T60 l2 x17_1).f2)) else (honeycombref04_Turn.j1 k1 a0 a1 x9_1 l2 (l2.length : Int) x17_1 (decide (a1 > 11)) ((rd_T60 l2 x17_1).f0) ((rd_T60 l2 x17_1).f1) ((rd_T60 l2 x17_1).f2))) else (none)) = some (r1, r2, r3) := H
   have A9 := Aside0.mk A90
   clear A90
   by_cases c10 : t683 = 0
   rotate_left
   ·
    rw [if_neg c10] at H
    exact absurd H (by simp)
   rw [if_pos c10] at H
   have c10b0 : (t683 == 0) = true := beq_iff_eq.mpr c10
   have c10b1 : (t683 != 0) = false := bne_eq_false_iff_eq.mpr c10
   clear c10
   have HC11 := Aside0.mk H
   clear H
   have p681 : 0 ≤ (x17_1 : Int) := of_decide_eq_true as_
   have q681 : x17_1 < (l2.length : Int) := of_decide_eq_true as_
   obtain ⟨ad681, e681, hx681_0, hx681_1, hx681_2⟩ := at_T60 HR2.out x17_1 p681 q681
   cases e681
   try replace hx681_0 := (HB.out.cell (World.block_lt_of_cell? w _ hx681_0)).trans hx681_0
   try replace hx681_1 := (HB.out.cell (World.block_lt_of_cell? w _ hx681_1)).trans hx681_1
   try replace hx681_2 := (HB.out.cell (World.block_lt_of_cell? w _ hx681_2)).trans hx681_2
   replace p681 := eq_true p681
   replace q681 := eq_true q681
   go_upto_region 8 with (first | ((with_reducible refine gate_dst (N := 11) rfl ?_); refine bx_ 11 #[.int .i64 0, .int .i64 0, .int .i64 0] 60 ?_; intro gb682 hg w12 hbox hb; have BK682 := Aside0.mk (hbox); have GW682 := Aside0.mk ((by rw [hg]; exact (below_size hb_) : w.heap.size ≤ gb682)); have GE682 := GW682; replace HO_9 := Aside0.mk (Kd.R_below (Kd.R_elderB (kr_ HO_9.out) gb682 (Nat.le_of_eq hg.symm)) hb); replace HB := Aside0.mk (below_step hb_ hb); clear hb hbox hg; obtain ⟨hcz13_0, hcz13_1, hcz13_2⟩ := cz3_ BK682.out; obtain ⟨hfz13_0, hfz13_1, hfz13_2⟩ := fz3_ BK682.out) | ((with_reducible refine gate_callee (f := 83) rfl ?_); refine goesL_ (some 24) rfl rfl Tryd.func83 (by kernel_rfl) rfl #[.int .i64 a0, .agg #[.int .i64 ((rd_T60 l2 x17_1).f0), .int .i64 ((rd_T60 l2 x17_1).f1), .int .i64 ((rd_T60 l2 x17_1).f2)]] rfl ar_ ?_; (with_reducible refine (honeycombref03_Check.calls k1 a0 ((rd_T60 l2 x17_1).f0) ((rd_T60 l2 x17_1).f1) ((rd_T60 l2 x17_1).f2) t683 _ A9.out).mono ?_); rintro e w14 ⟨rfl, hb⟩; refine ⟨_, rfl, ?_⟩; replace HO_9 := Aside0.mk (Kd.R_below (by (with_reducible repeat (first | apply Kd.R_alloc | apply Kd.R_drewN | apply Kd.R_drew)); exact (Kd.R_mono (Kd.R_far (p := ⟨gb682, 2, none⟩) (Kd.R_far (p := ⟨gb682, 1, none⟩) (Kd.R_far (p := ⟨gb682, 0, none⟩) (Kd.R_mono HO_9.out (fun k_ hk => (⟨hk, hk.2⟩ : _ ∧ k_ ≠ gb682))) (fun _ hk => hk.2) (.int .i64 ((rd_T60 l2 x17_1).f0))) (fun _ hk => hk.2) (.int .i64 ((rd_T60 l2 x17_1).f1))) (fun _ hk => hk.2) (.int .i64 ((rd_T60 l2 x17_1).f2))) (fun _ h_ => h_.1))) hb); replace BK682 := Aside0.mk (blk_below (g := gb682) (o := .cells #[.int .i64 ((rd_T60 l2 x17_1).f0), .int .i64 ((rd_T60 l2 x17_1).f1), .int .i64 ((rd_T60 l2 x17_1).f2)] 60 (0, 0)) (by (with_reducible repeat (first | apply bN_ | apply bD_ | apply bA_)); refine blk_put (cs := #[.int .i64 ((rd_T60 l2 x17_1).f0), .int .i64 ((rd_T60 l2 x17_1).f1), .int .i64 0]) ?_ 2 _ rfl; (with_reducible repeat (first | apply bN_ | apply bD_ | apply bA_)); refine blk_put (cs := #[.int .i64 ((rd_T60 l2 x17_1).f0), .int .i64 0, .int .i64 0]) ?_ 1 _ rfl; (with_reducible repeat (first | apply bN_ | apply bD_ | apply bA_)); refine blk_put (cs := #[.int .i64 0, .int .i64 0, .int .i64 0]) ?_ 0 _ rfl; (with_reducible repeat (first | apply bN_ | apply bD_ | apply bA_)); exact BK682.out) hb); replace HB := Aside0.mk (below_step (hg_ GE682.out) hb); (try clear hb); (try clear hb2); (try clear hk); (try clear hi)))
   (try simp only [Act.put, List.setIfInBounds_toArray, List.set_cons_zero, List.set_cons_succ])
   go_cut [34] (fun v34 wc => ∃ (kq : Nat) (x34_10 : Bool), v34 = .bool x34_10 ∧ Aside0 (honeycombref04_Turn.j1 kq a0 a1 x9_1 l2 (l2.length : Int) x17_1 x34_10 ((rd_T60 l2 x17_1).f0) ((rd_T60 l2 x17_1).f1) ((rd_T60 l2 x17_1).f2) = some (r1, r2, r3)) ∧ Aside0 (kq ≤ k1) ∧ Aside0 (Kd.R k60 60 wc w.heap.size (fun k_ => k_ ≠ gb682) u9 x9_1) ∧ Aside0 (wc.heap[gb682]? = some (.cells #[.int .i64 ((rd_T60 l2 x17_1).f0), .int .i64 ((rd_T60 l2 x17_1).f1), .int .i64 ((rd_T60 l2 x17_1).f2)] 60 (0, 0))) ∧ Aside0 (Below w.heap.size w wc))
   case first =>
    have H := HC11.out
    clear HC11
    by_cases c15 : a1 < 0
    ·
     rw [if_pos c15] at H
     have c15b0 : decide (a1 < 0) = true := decide_eq_true c15
     clear c15
     (first | rw [c15b0] | (simp only [i64_w, i32_w]; rw [c15b0]) | skip)
     have H' := Aside0.mk H
     clear H
     go_wp2
     go_meet
     case rel => exact ⟨_, (true), rs_, H', ⟨by have := HK1.out; first | omega | exact Nat.le_refl _⟩, ⟨by (with_reducible repeat (first | apply Kd.R_alloc | apply Kd.R_drewN | apply Kd.R_drew)); exact Kd.R_mono HO_9.out (fun _ hk => hk.2)⟩, ⟨bk_ BK682.out⟩, ⟨by repeat (first | (with_reducible first | exact HB.out | apply ba_ | apply bn_ | apply bd_ | refine below_set ?_ GE682.out) | exact HB.out)⟩⟩
    rw [if_neg c15] at H
    have c15b0 : decide (a1 < 0) = false := decide_eq_false c15
    clear c15
    (first | rw [c15b0] | (simp only [i64_w, i32_w]; rw [c15b0]) | skip)
    have H' := Aside0.mk H
    clear H
    go_wp2
    go_meet
    case rel => exact ⟨_, (decide (a1 > 11)), rs_, H', ⟨by have := HK1.out; first | omega | exact Nat.le_refl _⟩, ⟨by (with_reducible repeat (first | apply Kd.R_alloc | apply Kd.R_drewN | apply Kd.R_drew)); exact Kd.R_mono HO_9.out (fun _ hk => hk.2)⟩, ⟨bk_ BK682.out⟩, ⟨by repeat (first | (with_reducible first | exact HB.out | apply ba_ | apply bn_ | apply bd_ | refine below_set ?_ GE682.out) | exact HB.out)⟩⟩
   case rest =>
    clear HC11
    try clear c1
    try clear c2
    try clear p2
    try clear c6
    try clear c6b0
    try clear p6
    try clear q6
    try clear hx6
    try clear c7
    try clear c7b0
    try clear c8
    try clear c8b0
    try clear c10
    try clear c10b0
    try clear c10b1
    try clear c15
    try clear c15b0
    try clear hcz13_0
    try clear hcz13_1
    try clear hcz13_2
    try clear hfz13_0
    try clear hfz13_1
    try clear hfz13_2
    try clear hx681_0
    try clear hx681_1
    try clear hx681_2
    try clear p2
    try clear p681
    try clear q681
    obtain ⟨kq, x34_10, rfl, HA, HJ10, HO_9, BK682, HB⟩ := hcut
    cases kq with
    | zero => exact absurd HA.out (by simp [honeycombref04_Turn.j1])
    | succ kj10 =>
     have H := HA.out
     clear HA
     simp only [honeycombref04_Turn.j1] at H
     by_cases c16 : x34_10 = true
     ·
      subst c16
      have H1 : (none) = some (r1, r2, r3) := by rw [if_pos rfl] at H; exact H
      clear H
      have H := H1
      clear H1
      exact absurd H (by simp)
     replace c16 := Bool.eq_false_iff.mpr c16
     subst c16
     have H1 : ((XROn.f a0 a1 ((rd_T60 l2 x17_1).f0) ((rd_T60 l2 x17_1).f1) ((rd_T60 l2 x17_1).f2)).bind fun bt684 => ((honeycombref01_Good.f bt684.1 bt684.2.1).bind fun t688 => (if t688 = true then (if x9_1.length < 5864062014805 then (honeycombref04_Turn.l0 kj10 a0 a1 (x9_1 ++ [(⟨bt684.1, bt684.2.1, bt684.2.2⟩ : S60)]) l2 (l2.length : Int) (wrap64 (x17_1 + 1))) else (none)) else (none)))) = some (r1, r2, r3) := by rw [if_neg (show ¬ (false = true) by decide)] at H; exact H
     clear H
     have H := H1
     clear H1
     replace H := Option.bind_eq_some_iff.mp H
     obtain ⟨⟨t684, t685, t686⟩, A170, H⟩ := H
     replace H : ((honeycombref01_Good.f t684 t685).bind fun t688 => (if t688 = true then (if x9_1.length < 5864062014805 then (honeycombref04_Turn.l0 kj10 a0 a1 (x9_1 ++ [(⟨t684, t685, t686⟩ : S60)]) l2 (l2.length : Int) (wrap64 (x17_1 + 1))) else (none)) else (none))) = some (r1, r2, r3) := H
     have A17 := Aside0.mk A170
     clear A170
     replace H := Option.bind_eq_some_iff.mp H
     obtain ⟨t688, A180, H⟩ := H
     replace H : (if t688 = true then (if x9_1.length < 5864062014805 then (honeycombref04_Turn.l0 kj10 a0 a1 (x9_1 ++ [(⟨t684, t685, t686⟩ : S60)]) l2 (l2.length : Int) (wrap64 (x17_1 + 1))) else (none)) else (none)) = some (r1, r2, r3) := H
     have A18 := Aside0.mk A180
     clear A180
     by_cases c19 : t688 = true
     rotate_left
     ·
      replace c19 := Bool.eq_false_iff.mpr c19
      subst c19
      have H1 : (none) = some (r1, r2, r3) := by rw [if_neg (show ¬ (false = true) by decide)] at H; exact H
      clear H
      have H := H1
      clear H1
      exact absurd H (by simp)
     subst c19
     have H1 : (if x9_1.length < 5864062014805 then (honeycombref04_Turn.l0 kj10 a0 a1 (x9_1 ++ [(⟨t684, t685, t686⟩ : S60)]) l2 (l2.length : Int) (wrap64 (x17_1 + 1))) else (none)) = some (r1, r2, r3) := by rw [if_pos rfl] at H; exact H
     clear H
     have H := H1
     clear H1
     by_cases c20 : x9_1.length < 5864062014805
     rotate_left
     ·
      rw [if_neg c20] at H
      exact absurd H (by simp)
     rw [if_pos c20] at H
     have LMc20 := Aside0.mk c20
     clear c20
     obtain ⟨y689, hy689⟩ : ∃ y_ : List (S60), y_ = (x9_1 ++ [(⟨t684, t685, t686⟩ : S60)]) := ⟨_, rfl⟩
     replace H : (honeycombref04_Turn.l0 kj10 a0 a1 y689 l2 (l2.length : Int) (wrap64 (x17_1 + 1))) = some (r1, r2, r3) := by first | (rw [hy689]; with_reducible exact H) | (have H2_ := (Option.bind_some _ _).symm.trans H; rw [hy689]; with_reducible exact H2_) | (have H2_ := (Option.bind_some _ _).symm.trans H; with_reducible exact H2_) | with_reducible exact H | (rw [hy689]; exact H) | exact H
     have Ny689 := Aside0.mk hy689
     clear hy689
     have H' := Aside0.mk H
     clear H
     obtain ⟨hcz21_0, hcz21_1, hcz21_2⟩ := cz3_ BK682.out
     obtain ⟨hfz21_0, hfz21_1, hfz21_2⟩ := fz3_ BK682.out
     go_wp2_with (first | ((with_reducible refine gate_callee (f := 101) rfl ?_); refine goesL_ (some 39) rfl rfl Tryd.func101 (by kernel_rfl) rfl #[.int .i64 a0, .int .i64 a1, .agg #[.int .i64 ((rd_T60 l2 x17_1).f0), .int .i64 ((rd_T60 l2 x17_1).f1), .int .i64 ((rd_T60 l2 x17_1).f2)]] rfl ar_ ?_; (with_reducible refine (XROn.calls a0 a1 ((rd_T60 l2 x17_1).f0) ((rd_T60 l2 x17_1).f1) ((rd_T60 l2 x17_1).f2) t684 t685 t686 _ A17.out).mono ?_); rintro e w22 ⟨rfl, hb⟩; refine ⟨_, rfl, ?_⟩; replace HO_9 := Aside0.mk (Kd.R_below (kr_ HO_9.out) hb); replace BK682 := bb_ BK682.out hb; replace HB := Aside0.mk (below_step (hg_ GE682.out) hb); (try clear hb); (try clear hb2); (try clear hk); (try clear hi)) | ((with_reducible refine gate_dst (N := 13) rfl ?_); refine bx_ 13 #[.int .i64 0, .int .i64 0, .int .i64 0] 60 ?_; intro gb687 hg w23 hbox hb; have BK687 := Aside0.mk (hbox); have GW687 := Aside0.mk ((by rw [hg]; exact (below_size (hg_ GE682.out)) : w.heap.size ≤ gb687)); have GE687 := GW687; have NB682_687 := Aside0.mk ((by rw [hg]; exact ne1_ BK682.out : gb682 ≠ gb687)); have NB687_682 := Aside0.mk ((by rw [hg]; exact ne2_ BK682.out : gb687 ≠ gb682)); replace HO_9 := Aside0.mk (Kd.R_below (Kd.R_elderB (kr_ HO_9.out) gb687 (Nat.le_of_eq hg.symm)) hb); replace BK682 := bb_ BK682.out hb; replace HB := Aside0.mk (below_step (hg_ GE682.out) hb); clear hb hbox hg; have hnb24 := NB687_682.out; have hnc24 := NB682_687.out; obtain ⟨hcz25_0, hcz25_1, hcz25_2⟩ := cz3_ BK687.out; obtain ⟨hfz25_0, hfz25_1, hfz25_2⟩ := fz3_ BK687.out) | ((with_reducible refine gate_callee (f := 67) rfl ?_); refine goesL_ (some 44) rfl rfl Tryd.func67 (by kernel_rfl) rfl #[.int .i64 t684, .int .i64 t685] rfl ar_ ?_; (with_reducible refine (honeycombref01_Good.calls t684 t685 true _ A18.out).mono ?_); rintro e w' ⟨rfl, ⟨nd, rfl⟩⟩; refine ⟨_, rfl, ?_⟩) | ((with_reducible refine gate_builtin (b := .append) (xs := #[.tmp 47, .tmp 49]) rfl ?_); at_builtin; refine Kd.R_append k60 (w0 := w) w.heap.size rfl (.tmp 47) (.tmp 49) 45 60 (.agg #[(.int .i64 0), (.int .i64 0), (.int .i64 0)]) 24 rfl Tryd.underlying45 info60 rfl (by decide) (by omega) u9 x9_1 (⟨t684, t685, t686⟩ : S60) [.int .i64 t684, .int .i64 t685, .int .i64 t686] (fun k_ => k_ ≠ gb682 ∧ k_ ≠ gb687) (fun _ => False) rfl (by first | (go_simp; done) | (go_simp; rfl)) ?aP (fun _ hk => hk.elim) ?aF ?aO ?aB ?aS ?aL ?_; (case aP => exact k60_mkM _ _ _ (⟨t684, t685, t686⟩ : S60)); (case aB => exact (hg2_ GE682.out GE687.out)); (case aF => exact (fun k_ hk => ⟨Kd.freshB (g := gb682) (o := .cells #[.int .i64 ((rd_T60 l2 x17_1).f0), .int .i64 ((rd_T60 l2 x17_1).f1), .int .i64 ((rd_T60 l2 x17_1).f2)] 60 (0, 0)) (by (with_reducible repeat (first | apply bN_ | apply bD_ | apply bA_)); refine blk_far ?_ NB682_687.out _; (with_reducible repeat (first | apply bN_ | apply bD_ | apply bA_)); refine blk_far ?_ NB682_687.out _; (with_reducible repeat (first | apply bN_ | apply bD_ | apply bA_)); refine blk_far ?_ NB682_687.out _; (with_reducible repeat (first | apply bN_ | apply bD_ | apply bA_)); exact BK682.out) k_ hk, Kd.freshB (g := gb687) (o := .cells #[.int .i64 t684, .int .i64 t685, .int .i64 t686] 60 (0, 0)) (by (with_reducible repeat (first | apply bN_ | apply bD_ | apply bA_)); refine blk_put (cs := #[.int .i64 t684, .int .i64 t685, .int .i64 0]) ?_ 2 _ rfl; (with_reducible repeat (first | apply bN_ | apply bD_ | apply bA_)); refine blk_put (cs := #[.int .i64 t684, .int .i64 0, .int .i64 0]) ?_ 1 _ rfl; (with_reducible repeat (first | apply bN_ | apply bD_ | apply bA_)); refine blk_put (cs := #[.int .i64 0, .int .i64 0, .int .i64 0]) ?_ 0 _ rfl; (with_reducible repeat (first | apply bN_ | apply bD_ | apply bA_)); exact BK687.out) k_ hk⟩)); (case aO => exact (by (with_reducible repeat (first | apply Kd.R_alloc | apply Kd.R_drewN | apply Kd.R_drew)); exact Kd.R_mono (Kd.R_far (p := ⟨gb687, 2, none⟩) (Kd.R_far (p := ⟨gb687, 1, none⟩) (Kd.R_far (p := ⟨gb687, 0, none⟩) (Kd.R_mono HO_9.out (fun k_ hk => (⟨hk, hk.2⟩ : _ ∧ k_ ≠ gb687))) (fun _ hk => hk.2) (.int .i64 t684)) (fun _ hk => hk.2) (.int .i64 t685)) (fun _ hk => hk.2) (.int .i64 t686)) (fun _ hk => ⟨hk.1.1, hk.1.2⟩))); (case aS => exact (below_size (hg2_ GE682.out GE687.out))); (case aL => have := LMc20.out; omega); intro v690 w26 ho hb hg hat; rw [← Ny689.out] at ho; have HO691 := Aside0.mk (ho); replace BK682 := Aside0.mk (blk_grown (g := gb682) (o := .cells #[.int .i64 ((rd_T60 l2 x17_1).f0), .int .i64 ((rd_T60 l2 x17_1).f1), .int .i64 ((rd_T60 l2 x17_1).f2)] 60 (0, 0)) (by (with_reducible repeat (first | apply bN_ | apply bD_ | apply bA_)); refine blk_far ?_ NB682_687.out _; (with_reducible repeat (first | apply bN_ | apply bD_ | apply bA_)); refine blk_far ?_ NB682_687.out _; (with_reducible repeat (first | apply bN_ | apply bD_ | apply bA_)); refine blk_far ?_ NB682_687.out _; (with_reducible repeat (first | apply bN_ | apply bD_ | apply bA_)); exact BK682.out) hg (Kd.R_away HO_9.out (fun _ hk => hk.1))); replace BK687 := Aside0.mk (blk_grown (g := gb687) (o := .cells #[.int .i64 t684, .int .i64 t685, .int .i64 t686] 60 (0, 0)) (by (with_reducible repeat (first | apply bN_ | apply bD_ | apply bA_)); refine blk_put (cs := #[.int .i64 t684, .int .i64 t685, .int .i64 0]) ?_ 2 _ rfl; (with_reducible repeat (first | apply bN_ | apply bD_ | apply bA_)); refine blk_put (cs := #[.int .i64 t684, .int .i64 0, .int .i64 0]) ?_ 1 _ rfl; (with_reducible repeat (first | apply bN_ | apply bD_ | apply bA_)); refine blk_put (cs := #[.int .i64 0, .int .i64 0, .int .i64 0]) ?_ 0 _ rfl; (with_reducible repeat (first | apply bN_ | apply bD_ | apply bA_)); exact BK687.out) hg (Kd.R_away HO_9.out (fun _ hk => hk.2))); replace HB := Aside0.mk (hb); clear HO_9; clear ho hb hg hat))
     go_roundg kj10
     case measure => have := HK1.out; have := HJ10.out; omega
     case rel => exact ⟨(y689), (wrap64 (x17_1 + 1)), rs_, H', ⟨by have := HK1.out; have := HJ10.out; omega⟩, ⟨by (with_reducible repeat (first | apply Kd.R_alloc | apply Kd.R_drewN | apply Kd.R_drew)); exact Kd.R_mono HO691.out (fun _ hk => trivial)⟩, ⟨by repeat (first | (with_reducible first | exact HB.out | apply ba_ | apply bn_ | apply bd_ | refine below_set ?_ GE682.out | refine below_set ?_ GE687.out) | exact HB.out)⟩⟩
end H
namespace H
attribute [local go_sem] max2_int min2_int max_two min_two max_three min_three max_four min_four
attribute [local go_sem high] eqA60
def honeycomblaw07_commutes.l0 : Nat → List (S60) → List (S60) → Int → Int → Option (Bool)
 | 0, _, _, _, _ => none
 | k + 1, x10, x11, x44, x45 => if x45 < x44 then (if 0 ≤ x45 then (if x45 < (x10.length : Int) then (if x45 < (x11.length : Int) then (if (!(((rd_T60 x10 x45).f0) == ((rd_T60 x11 x45).f0)) || (!(((rd_T60 x10 x45).f1) == ((rd_T60 x11 x45).f1)) || (!(((rd_T60 x10 x45).f2) == ((rd_T60 x11 x45).f2))))) = true then (some false) else (honeycomblaw07_commutes.l0 k x10 x11 x44 (wrap64 (x45 + 1)))) else (none)) else (none)) else (none)) else (some true)
def honeycomblaw07_commutes.f (k : Nat) (a0_0 : Int) (l0_1 : List Int) (l0_2 : List Int) (a1 : Int) (l2 : List (S60)) : Option (Bool) := (honeycombref04_Turn.f k a0_0 a1 l2).bind fun bt727 => ((XRStep.f a0_0 l0_1 l0_2 bt727.1).bind fun t732 => ((XRStep.f a0_0 l0_1 l0_2 l2).bind fun t735 => ((honeycombref04_Turn.f k a0_0 a1 t735).bind fun bt738 => (if (t732.length : Int) = (bt738.1.length : Int) then (honeycomblaw07_commutes.l0 k t732 bt738.1 (bt738.1.length : Int) 0) else (some false)))))
def honeycomblaw07_commutes.T3 : Bool × List (List Nat × List Nat) := (true, [([], []), ([0], [0]), ([], []), ([], []), ([], []), ([3, 4], [3, 4]), ([1, 2, 5, 5], [1, 2, 5]), ([6], [6]), ([7], [7]), ([7], [7]), ([7], [7]), ([8, 6, 0, 1, 2, 3, 4, 5, 6, 7, 8], [8]), ([9, 11, 0, 1, 2, 3, 4, 5, 6, 7, 8, 9, 11], [9]), ([10, 12, 0, 1, 2, 3, 4, 5, 6, 7, 8, 9, 10, 11, 12], [10])])
def honeycomblaw07_commutes.B3 : List Nat := [0, 1, 0, 0, 0, 24, 63, 127, 255, 255, 255, 511, 3071, 8191]
theorem honeycomblaw07_commutes.tab3 : rtab .any (opsOf Tryd.f41 3) = honeycomblaw07_commutes.T3 := by kernel_rfl
theorem honeycomblaw07_commutes.bits3 : waitsOk honeycomblaw07_commutes.T3.2 honeycomblaw07_commutes.B3 = true := by kernel_rfl
def honeycomblaw07_commutes.T9 : Bool × List (List Nat × List Nat) := (true, [([], []), ([], []), ([0, 1], [0, 1]), ([2], [2]), ([], []), ([], []), ([4, 5], [4, 5]), ([6], [6]), ([3, 7], [3, 7])])
def honeycomblaw07_commutes.B9 : List Nat := [0, 0, 3, 7, 0, 0, 48, 112, 255]
theorem honeycomblaw07_commutes.tab9 : rtab .any (opsOf Tryd.f41 9) = honeycomblaw07_commutes.T9 := by kernel_rfl
theorem honeycomblaw07_commutes.bits9 : waitsOk honeycomblaw07_commutes.T9.2 honeycomblaw07_commutes.B9 = true := by kernel_rfl
theorem honeycomblaw07_commutes.calls (k : Nat) (a0_0 : Int) (A0_1 : Option Addr) (c0_1 : Nat) (l0_1 : List Int) (A0_2 : Option Addr) (c0_2 : Nat) (l0_2 : List Int) (a1 : Int) (A2 : Option Addr) (c2 : Nat) (l2 : List (S60)) (r : Bool) (w : World) (hr0_1 : Kd.C (Kd.int .u64) w A0_1 l0_1.length l0_1) (hc0_1 : l0_1.length ≤ c0_1) (hr0_2 : Kd.C (Kd.int .u64) w A0_2 l0_2.length l0_2) (hc0_2 : l0_2.length ≤ c0_2) (hr2 : Kd.C k60 w A2 l2.length l2) (hc2 : l2.length ≤ c2) (h : honeycomblaw07_commutes.f k a0_0 l0_1 l0_2 a1 l2 = some r) :
  Calls Tryd.prog 41 #[.agg #[.int .i64 a0_0, .slice A0_1 l0_1.length c0_1, .slice A0_2 l0_2.length c0_2], .int .i64 a1, .slice A2 l2.length c2] w fun e w' => e = .returned (.bool r) ∧ Below w.heap.size w w' := by
 have hu55 := Tryd.underlying55
 have hu60 := Tryd.underlying60
 have HR0_1 := Aside0.mk hr0_1
 have HC0_1 := Aside0.mk hc0_1
 clear hr0_1 hc0_1
 have HR0_2 := Aside0.mk hr0_2
 have HC0_2 := Aside0.mk hc0_2
 clear hr0_2 hc0_2
 have HR2 := Aside0.mk hr2
 have HC2 := Aside0.mk hc2
 clear hr2 hc2
 have HB := Aside0.mk (Below.refl w.heap.size w)
 have H : ((honeycombref04_Turn.f k a0_0 a1 l2).bind fun bt727 => ((XRStep.f a0_0 l0_1 l0_2 bt727.1).bind fun t732 => ((XRStep.f a0_0 l0_1 l0_2 l2).bind fun t735 => ((honeycombref04_Turn.f k a0_0 a1 t735).bind fun bt738 => (if (t732.length : Int) = (bt738.1.length : Int) then (honeycomblaw07_commutes.l0 k t732 bt738.1 (bt738.1.length : Int) 0) else (some false)))))) = some r := h
 clear h
 replace H := Option.bind_eq_some_iff.mp H
 obtain ⟨⟨t727, t728, t729⟩, A40, H⟩ := H
 replace H : ((XRStep.f a0_0 l0_1 l0_2 t727).bind fun t732 => ((XRStep.f a0_0 l0_1 l0_2 l2).bind fun t735 => ((honeycombref04_Turn.f k a0_0 a1 t735).bind fun bt738 => (if (t732.length : Int) = (bt738.1.length : Int) then (honeycomblaw07_commutes.l0 k t732 bt738.1 (bt738.1.length : Int) 0) else (some false))))) = some r := H
 have A4 := Aside0.mk A40
 clear A40
 replace H := Option.bind_eq_some_iff.mp H
 obtain ⟨t732, A50, H⟩ := H
 replace H : ((XRStep.f a0_0 l0_1 l0_2 l2).bind fun t735 => ((honeycombref04_Turn.f k a0_0 a1 t735).bind fun bt738 => (if (t732.length : Int) = (bt738.1.length : Int) then (honeycomblaw07_commutes.l0 k t732 bt738.1 (bt738.1.length : Int) 0) else (some false)))) = some r := H
 have A5 := Aside0.mk A50
 clear A50
 replace H := Option.bind_eq_some_iff.mp H
 obtain ⟨t735, A60, H⟩ := H
 replace H : ((honeycombref04_Turn.f k a0_0 a1 t735).bind fun bt738 => (if (t732.length : Int) = (bt738.1.length : Int) then (honeycomblaw07_commutes.l0 k t732 bt738.1 (bt738.1.length : Int) 0) else (some false))) = some r := H
 have A6 := Aside0.mk A60
 clear A60
 replace H := Option.bind_eq_some_iff.mp H
 obtain ⟨⟨t738, t739, t740⟩, A70, H⟩ := H
 replace H : (if (t732.length : Int) = (t738.length : Int) then (honeycomblaw07_commutes.l0 k t732 t738 (t738.length : Int) 0) else (some false)) = some r := H
 have A7 := Aside0.mk A70
 clear A70
 by_cases c8 : (t732.length : Int) = (t738.length : Int)
 rotate_left
 ·
  rw [if_neg c8] at H
  have c8b0 : ((t732.length : Int) == (t738.length : Int)) = false := beq_eq_false_iff_ne.mpr c8
  have c8b1 : ((t732.length : Int) != (t738.length : Int)) = true := bne_iff_ne.mpr c8
  have c8b2 : (t732.length == t738.length) = false := by first | simpa using c8 | (simp at c8 ⊢; omega)
  obtain rfl := Option.some.inj H
  go_enter Tryd.func41, Tryd.ntmps41
  try go_wp2_with (first | ((with_reducible refine gate_dst (N := 3) rfl ?_); refine bx_ 3 #[.int .i64 a0_0, .slice A0_1 l0_1.length c0_1, .slice A0_2 l0_2.length c0_2] 55 ?_; intro gb726 hg w28 hbox hb; have BK726 := Aside0.mk (hbox); have GW726 := Aside0.mk ((by rw [hg]; exact (below_size hb_) : w.heap.size ≤ gb726)); have GE726 := GW726; replace HB := Aside0.mk (below_step hb_ hb); clear hb hbox hg; obtain ⟨hcz29_0, hcz29_1, hcz29_2⟩ := cz3_ BK726.out; obtain ⟨hfz29_0, hfz29_1, hfz29_2⟩ := fz3_ BK726.out) | ((with_reducible refine gate_callee (f := 79) rfl ?_); refine goesL_ (some 20) rfl rfl Tryd.func79 (by kernel_rfl) rfl #[.int .i64 a0_0, .int .i64 a1, .slice A2 l2.length c2] rfl ar_ ?_; (with_reducible refine (honeycombref04_Turn.calls k a0_0 a1 _ _ l2 t727 t728 t729 _ ?side1 ?side2 A4.out).mono ?_); (case side1 => repeat (first | exact (Kd.C_below HR2.out HB.out) | (with_reducible refine Kd.C_alloc ?_ _) | (with_reducible refine Kd.C_drewN ?_ _) | (with_reducible refine Kd.C_drew ?_))); (case side2 => exact HC2.out); rintro e w30 ⟨v730, rfl, ho0, hb⟩; refine ⟨_, rfl, ?_⟩; have HO731 := Aside0.mk (Kd.R_lower ho0 (below_size (hg_ GE726.out))); replace BK726 := bb_ BK726.out hb; replace HB := Aside0.mk (below_step (hg_ GE726.out) hb); (try clear hb); (try clear hb2); (try clear hk); (try clear hi); (try clear ho0); obtain ⟨hcz31_0, hcz31_1, hcz31_2⟩ := cz3_ BK726.out; obtain ⟨hfz31_0, hfz31_1, hfz31_2⟩ := fz3_ BK726.out; obtain ⟨Ao32, co32, eo32⟩ := Kd.R_slice HO731.out; subst eo32) | ((with_reducible refine gate_callee (f := 28) rfl ?_); refine goesL_ (some 26) rfl rfl Tryd.func28 (by kernel_rfl) rfl #[.agg #[.int .i64 a0_0, .slice A0_1 l0_1.length c0_1, .slice A0_2 l0_2.length c0_2], .slice Ao32 t727.length co32] rfl ar_ ?_; (with_reducible refine (XRStep.calls a0_0 _ _ l0_1 _ _ l0_2 _ _ t727 t732 _ ?side1 ?side2 ?side3 ?side4 ?side5 ?side6 A5.out).mono ?_); (case side1 => repeat (first | exact (Kd.C_below HR0_1.out HB.out) | (with_reducible refine Kd.C_alloc ?_ _) | (with_reducible refine Kd.C_drewN ?_ _) | (with_reducible refine Kd.C_drew ?_))); (case side2 => exact HC0_1.out); (case side3 => repeat (first | exact (Kd.C_below HR0_2.out HB.out) | (with_reducible refine Kd.C_alloc ?_ _) | (with_reducible refine Kd.C_drewN ?_ _) | (with_reducible refine Kd.C_drew ?_))); (case side4 => exact HC0_2.out); (case side5 => repeat (first | exact (Kd.R_reads' HO731.out).2.2 | (with_reducible refine Kd.C_alloc ?_ _) | (with_reducible refine Kd.C_drewN ?_ _) | (with_reducible refine Kd.C_drew ?_))); (case side6 => exact (Kd.R_reads' HO731.out).2.1); rintro e w33 ⟨v733, rfl, ho0, hb⟩; refine ⟨_, rfl, ?_⟩; have HO734 := Aside0.mk (Kd.R_lower (Kd.R_new' ho0 (Kd.R_lt (kr_ HO731.out))) (below_size (hg_ GE726.out))); replace HO731 := Aside0.mk (Kd.R_elder' (kr_ HO731.out) (Kd.R_base ho0) hb); replace BK726 := bb_ BK726.out hb; replace HB := Aside0.mk (below_step (hg_ GE726.out) hb); (try clear hb); (try clear hb2); (try clear hk); (try clear hi); (try clear ho0)))
  replace HO731 := Aside0.mk (Kd.R_drew HO731.out)
  replace HO734 := Aside0.mk (Kd.R_drew HO734.out)
  replace BK726 := Aside0.mk (blk_drew BK726.out)
  replace HB := Aside0.mk (below_drew1 HB.out)
  refine start_ (n := 14) (S := fun w' => w'.cell? ⟨gb726, 0, none⟩ = some (.int .i64 a0_0) ∧ w'.cell? ⟨gb726, 1, none⟩ = some (.slice A0_1 l0_1.length c0_1) ∧ w'.cell? ⟨gb726, 2, none⟩ = some (.slice A0_2 l0_2.length c0_2)) (ds := []) (m_ 14 0) (by kernel_rfl) rfl rfl ⟨(blk_cell BK726.out 0).trans rfl, (blk_cell BK726.out 1).trans rfl, (blk_cell BK726.out 2).trans rfl⟩ (fun hHeld => ?_); refine with_tabW honeycomblaw07_commutes.tab3 honeycomblaw07_commutes.bits3 (fun HT_ HW_ => ?_)
  generalize w33.drew = w34 at HO731 HO734 BK726 HB hHeld ⊢
  refine pq_ 0 (some 28) (m_ 14 1) (h := ?_)
  refine pq_ 2 (some 30) (m_ 14 5) (h := ?_)
  refine pq_ 4 (some 32) (m_ 14 21) (h := ?_)
  refine tq3_ 1 (some 29) (m_ 14 23) (h := ?_)
  refine tq3_ 3 (some 31) (m_ 14 31) (h := ?_)
  refine one_ (i := 5) (N := some 33) (m_ 14 63) rfl rfl (one_of HT_.out (by kernel_rfl)) (by decide) (fun K hK => ?_)
  refine goes_ Tryd.func28 (by kernel_rfl) rfl #[.agg #[.int .i64 a0_0, .slice A0_1 l0_1.length c0_1, .slice A0_2 l0_2.length c0_2], .slice A2 l2.length c2] (by rfl) rfl rfl ar_ ?_
  with_reducible refine (XRStep.calls a0_0 _ _ l0_1 _ _ l0_2 _ _ l2 t735 _ ?side1 ?side2 ?side3 ?side4 ?side5 ?side6 A6.out).mono ?_
  (case side1 => repeat (first | exact (Kd.C_below HR0_1.out HB.out) | (with_reducible refine Kd.C_alloc ?_ _) | (with_reducible refine Kd.C_drewN ?_ _) | (with_reducible refine Kd.C_drew ?_)))
  (case side2 => exact HC0_1.out)
  (case side3 => repeat (first | exact (Kd.C_below HR0_2.out HB.out) | (with_reducible refine Kd.C_alloc ?_ _) | (with_reducible refine Kd.C_drewN ?_ _) | (with_reducible refine Kd.C_drew ?_)))
  (case side4 => exact HC0_2.out)
  (case side5 => repeat (first | exact (Kd.C_below HR2.out HB.out) | (with_reducible refine Kd.C_alloc ?_ _) | (with_reducible refine Kd.C_drewN ?_ _) | (with_reducible refine Kd.C_drew ?_)))
  (case side6 => exact HC2.out)
  rintro e w35 ⟨v736, rfl, ho0, hb⟩
  refine ⟨_, rfl, ?_⟩
  have HO737 := Aside0.mk (Kd.R_lower (Kd.R_new' (Kd.R_new' ho0 (Kd.R_lt (kr_ HO731.out))) (Kd.R_lt (kr_ HO734.out))) (below_size (hg_ GE726.out)))
  replace HO731 := Aside0.mk (Kd.R_elder' (kr_ HO731.out) (Kd.R_base ho0) hb)
  replace HO734 := Aside0.mk (Kd.R_elder' (kr_ HO734.out) (Kd.R_base ho0) hb)
  replace BK726 := bb_ BK726.out hb
  replace HB := Aside0.mk (below_step (hg_ GE726.out) hb)
  (try clear hb)
  (try clear hb2)
  (try clear hk)
  (try clear hi)
  (try clear ho0)
  obtain ⟨Ao36, co36, eo36⟩ := Kd.R_slice HO737.out
  (first | subst eo36 | (injection eo36 with f1_ f2_ f3_; have f4_ := f1_.symm; have f5_ := f3_.symm; clear f1_ f2_ f3_; subst f4_; subst f5_))
  refine hK.out _ _ ⟨(blk_cell BK726.out 0).trans rfl, (blk_cell BK726.out 1).trans rfl, (blk_cell BK726.out 2).trans rfl⟩ (fun hHeld => ?_)
  clear hK K
  refine norm_ (a' := ?_) ?_ ?_
  rotate_left
  ·
   show Act.put _ (some 33) _ = _
   simp only [puts_]
   rfl
  refine one_ (i := 6) (N := some 34) (m_ 14 127) rfl rfl (one_of HT_.out (by kernel_rfl)) (by decide) (fun K hK => ?_)
  refine goes_ Tryd.func79 (by kernel_rfl) rfl #[.int .i64 a0_0, .int .i64 a1, .slice Ao36 t735.length co36] (by rfl) rfl rfl ar_ ?_
  with_reducible refine (honeycombref04_Turn.calls k a0_0 a1 _ _ t735 t738 t739 t740 _ ?side1 ?side2 A7.out).mono ?_
  (case side1 => repeat (first | exact (Kd.R_reads' HO737.out).2.2 | (with_reducible refine Kd.C_alloc ?_ _) | (with_reducible refine Kd.C_drewN ?_ _) | (with_reducible refine Kd.C_drew ?_)))
  (case side2 => exact (Kd.R_reads' HO737.out).2.1)
  rintro e w37 ⟨v741, rfl, ho0, hb⟩
  refine ⟨_, rfl, ?_⟩
  have HO742 := Aside0.mk (Kd.R_lower (Kd.R_new' (Kd.R_new' (Kd.R_new' ho0 (Kd.R_lt (kr_ HO731.out))) (Kd.R_lt (kr_ HO734.out))) (Kd.R_lt (kr_ HO737.out))) (below_size (hg_ GE726.out)))
  replace HO731 := Aside0.mk (Kd.R_elder' (kr_ HO731.out) (Kd.R_base ho0) hb)
  replace HO734 := Aside0.mk (Kd.R_elder' (kr_ HO734.out) (Kd.R_base ho0) hb)
  replace HO737 := Aside0.mk (Kd.R_elder' (kr_ HO737.out) (Kd.R_base ho0) hb)
  replace BK726 := bb_ BK726.out hb
  replace HB := Aside0.mk (below_step (hg_ GE726.out) hb)
  (try clear hb)
  (try clear hb2)
  (try clear hk)
  (try clear hi)
  (try clear ho0)
  refine hK.out _ _ ⟨(blk_cell BK726.out 0).trans rfl, (blk_cell BK726.out 1).trans rfl, (blk_cell BK726.out 2).trans rfl⟩ (fun hHeld => ?_)
  clear hK K
  refine norm_ (a' := ?_) ?_ ?_
  rotate_left
  ·
   show Act.put _ (some 34) _ = _
   simp only [puts_]
   rfl
  refine pq_ 7 (some 27) (m_ 14 255) (h := ?_)
  refine pq_ 8 (some 35) (m_ 14 511) (h := ?_)
  refine pq_ 9 (some 36) (m_ 14 1023) (h := ?_)
  refine pq_ 10 (some 37) (m_ 14 2047) (h := ?_)
  refine pq_ 11 (some 11) (m_ 14 4095) (h := ?_)
  refine pq_ 12 (some 12) (m_ 14 8191) (h := ?_)
  refine pq_ 13 (some 13) (m_ 14 16383) (h := ?_)
  refine done_ (done_of HT_.out (by kernel_rfl)) ?_
  obtain ⟨Ao38, co38, eo38⟩ := Kd.R_slice HO734.out
  subst eo38
  obtain ⟨Ao39, co39, eo39⟩ := Kd.R_slice HO742.out
  subst eo39
  try go_wp2
  go_ret
  exact ⟨er_, hg_ GE726.out⟩
 rw [if_pos c8] at H
 have c8b0 : ((t732.length : Int) == (t738.length : Int)) = true := beq_iff_eq.mpr c8
 have c8b1 : ((t732.length : Int) != (t738.length : Int)) = false := bne_eq_false_iff_eq.mpr c8
 have c8b2 : (t732.length == t738.length) = true := by first | simpa using c8 | (simp at c8 ⊢; omega)
 clear c8
 have H' := Aside0.mk H
 clear H
 go_enter Tryd.func41, Tryd.ntmps41
 try go_wp2_with (first | ((with_reducible refine gate_dst (N := 3) rfl ?_); refine bx_ 3 #[.int .i64 a0_0, .slice A0_1 l0_1.length c0_1, .slice A0_2 l0_2.length c0_2] 55 ?_; intro gb726 hg w9 hbox hb; have BK726 := Aside0.mk (hbox); have GW726 := Aside0.mk ((by rw [hg]; exact (below_size hb_) : w.heap.size ≤ gb726)); have GE726 := GW726; replace HB := Aside0.mk (below_step hb_ hb); clear hb hbox hg; obtain ⟨hcz10_0, hcz10_1, hcz10_2⟩ := cz3_ BK726.out; obtain ⟨hfz10_0, hfz10_1, hfz10_2⟩ := fz3_ BK726.out) | ((with_reducible refine gate_callee (f := 79) rfl ?_); refine goesL_ (some 20) rfl rfl Tryd.func79 (by kernel_rfl) rfl #[.int .i64 a0_0, .int .i64 a1, .slice A2 l2.length c2] rfl ar_ ?_; (with_reducible refine (honeycombref04_Turn.calls k a0_0 a1 _ _ l2 t727 t728 t729 _ ?side1 ?side2 A4.out).mono ?_); (case side1 => repeat (first | exact (Kd.C_below HR2.out HB.out) | (with_reducible refine Kd.C_alloc ?_ _) | (with_reducible refine Kd.C_drewN ?_ _) | (with_reducible refine Kd.C_drew ?_))); (case side2 => exact HC2.out); rintro e w11 ⟨v730, rfl, ho0, hb⟩; refine ⟨_, rfl, ?_⟩; have HO731 := Aside0.mk (Kd.R_lower ho0 (below_size (hg_ GE726.out))); replace BK726 := bb_ BK726.out hb; replace HB := Aside0.mk (below_step (hg_ GE726.out) hb); (try clear hb); (try clear hb2); (try clear hk); (try clear hi); (try clear ho0); obtain ⟨hcz12_0, hcz12_1, hcz12_2⟩ := cz3_ BK726.out; obtain ⟨hfz12_0, hfz12_1, hfz12_2⟩ := fz3_ BK726.out; obtain ⟨Ao13, co13, eo13⟩ := Kd.R_slice HO731.out; subst eo13) | ((with_reducible refine gate_callee (f := 28) rfl ?_); refine goesL_ (some 26) rfl rfl Tryd.func28 (by kernel_rfl) rfl #[.agg #[.int .i64 a0_0, .slice A0_1 l0_1.length c0_1, .slice A0_2 l0_2.length c0_2], .slice Ao13 t727.length co13] rfl ar_ ?_; (with_reducible refine (XRStep.calls a0_0 _ _ l0_1 _ _ l0_2 _ _ t727 t732 _ ?side1 ?side2 ?side3 ?side4 ?side5 ?side6 A5.out).mono ?_); (case side1 => repeat (first | exact (Kd.C_below HR0_1.out HB.out) | (with_reducible refine Kd.C_alloc ?_ _) | (with_reducible refine Kd.C_drewN ?_ _) | (with_reducible refine Kd.C_drew ?_))); (case side2 => exact HC0_1.out); (case side3 => repeat (first | exact (Kd.C_below HR0_2.out HB.out) | (with_reducible refine Kd.C_alloc ?_ _) | (with_reducible refine Kd.C_drewN ?_ _) | (with_reducible refine Kd.C_drew ?_))); (case side4 => exact HC0_2.out); (case side5 => repeat (first | exact (Kd.R_reads' HO731.out).2.2 | (with_reducible refine Kd.C_alloc ?_ _) | (with_reducible refine Kd.C_drewN ?_ _) | (with_reducible refine Kd.C_drew ?_))); (case side6 => exact (Kd.R_reads' HO731.out).2.1); rintro e w14 ⟨v733, rfl, ho0, hb⟩; refine ⟨_, rfl, ?_⟩; have HO734 := Aside0.mk (Kd.R_lower (Kd.R_new' ho0 (Kd.R_lt (kr_ HO731.out))) (below_size (hg_ GE726.out))); replace HO731 := Aside0.mk (Kd.R_elder' (kr_ HO731.out) (Kd.R_base ho0) hb); replace BK726 := bb_ BK726.out hb; replace HB := Aside0.mk (below_step (hg_ GE726.out) hb); (try clear hb); (try clear hb2); (try clear hk); (try clear hi); (try clear ho0)))
 replace HO731 := Aside0.mk (Kd.R_drew HO731.out)
 replace HO734 := Aside0.mk (Kd.R_drew HO734.out)
 replace BK726 := Aside0.mk (blk_drew BK726.out)
 replace HB := Aside0.mk (below_drew1 HB.out)
 refine start_ (n := 14) (S := fun w' => w'.cell? ⟨gb726, 0, none⟩ = some (.int .i64 a0_0) ∧ w'.cell? ⟨gb726, 1, none⟩ = some (.slice A0_1 l0_1.length c0_1) ∧ w'.cell? ⟨gb726, 2, none⟩ = some (.slice A0_2 l0_2.length c0_2)) (ds := []) (m_ 14 0) (by kernel_rfl) rfl rfl ⟨(blk_cell BK726.out 0).trans rfl, (blk_cell BK726.out 1).trans rfl, (blk_cell BK726.out 2).trans rfl⟩ (fun hHeld => ?_); refine with_tabW honeycomblaw07_commutes.tab3 honeycomblaw07_commutes.bits3 (fun HT_ HW_ => ?_)
 generalize w14.drew = w15 at HO731 HO734 BK726 HB hHeld ⊢
 refine pq_ 0 (some 28) (m_ 14 1) (h := ?_)
 refine pq_ 2 (some 30) (m_ 14 5) (h := ?_)
 refine pq_ 4 (some 32) (m_ 14 21) (h := ?_)
 refine tq3_ 1 (some 29) (m_ 14 23) (h := ?_)
 refine tq3_ 3 (some 31) (m_ 14 31) (h := ?_)
 refine one_ (i := 5) (N := some 33) (m_ 14 63) rfl rfl (one_of HT_.out (by kernel_rfl)) (by decide) (fun K hK => ?_)
 refine goes_ Tryd.func28 (by kernel_rfl) rfl #[.agg #[.int .i64 a0_0, .slice A0_1 l0_1.length c0_1, .slice A0_2 l0_2.length c0_2], .slice A2 l2.length c2] (by rfl) rfl rfl ar_ ?_
 with_reducible refine (XRStep.calls a0_0 _ _ l0_1 _ _ l0_2 _ _ l2 t735 _ ?side1 ?side2 ?side3 ?side4 ?side5 ?side6 A6.out).mono ?_
 (case side1 => repeat (first | exact (Kd.C_below HR0_1.out HB.out) | (with_reducible refine Kd.C_alloc ?_ _) | (with_reducible refine Kd.C_drewN ?_ _) | (with_reducible refine Kd.C_drew ?_)))
 (case side2 => exact HC0_1.out)
 (case side3 => repeat (first | exact (Kd.C_below HR0_2.out HB.out) | (with_reducible refine Kd.C_alloc ?_ _) | (with_reducible refine Kd.C_drewN ?_ _) | (with_reducible refine Kd.C_drew ?_)))
 (case side4 => exact HC0_2.out)
 (case side5 => repeat (first | exact (Kd.C_below HR2.out HB.out) | (with_reducible refine Kd.C_alloc ?_ _) | (with_reducible refine Kd.C_drewN ?_ _) | (with_reducible refine Kd.C_drew ?_)))
 (case side6 => exact HC2.out)
 rintro e w16 ⟨v736, rfl, ho0, hb⟩
 refine ⟨_, rfl, ?_⟩
 have HO737 := Aside0.mk (Kd.R_lower (Kd.R_new' (Kd.R_new' ho0 (Kd.R_lt (kr_ HO731.out))) (Kd.R_lt (kr_ HO734.out))) (below_size (hg_ GE726.out)))
 replace HO731 := Aside0.mk (Kd.R_elder' (kr_ HO731.out) (Kd.R_base ho0) hb)
 replace HO734 := Aside0.mk (Kd.R_elder' (kr_ HO734.out) (Kd.R_base ho0) hb)
 replace BK726 := bb_ BK726.out hb
 replace HB := Aside0.mk (below_step (hg_ GE726.out) hb)
 (try clear hb)
 (try clear hb2)
 (try clear hk)
 (try clear hi)
 (try clear ho0)
 obtain ⟨Ao17, co17, eo17⟩ := Kd.R_slice HO737.out
 (first | subst eo17 | (injection eo17 with f1_ f2_ f3_; have f4_ := f1_.symm; have f5_ := f3_.symm; clear f1_ f2_ f3_; subst f4_; subst f5_))
 refine hK.out _ _ ⟨(blk_cell BK726.out 0).trans rfl, (blk_cell BK726.out 1).trans rfl, (blk_cell BK726.out 2).trans rfl⟩ (fun hHeld => ?_)
 clear hK K
 refine norm_ (a' := ?_) ?_ ?_
 rotate_left
 ·
  show Act.put _ (some 33) _ = _
  simp only [puts_]
  rfl
 refine one_ (i := 6) (N := some 34) (m_ 14 127) rfl rfl (one_of HT_.out (by kernel_rfl)) (by decide) (fun K hK => ?_)
 refine goes_ Tryd.func79 (by kernel_rfl) rfl #[.int .i64 a0_0, .int .i64 a1, .slice Ao17 t735.length co17] (by rfl) rfl rfl ar_ ?_
 with_reducible refine (honeycombref04_Turn.calls k a0_0 a1 _ _ t735 t738 t739 t740 _ ?side1 ?side2 A7.out).mono ?_
 (case side1 => repeat (first | exact (Kd.R_reads' HO737.out).2.2 | (with_reducible refine Kd.C_alloc ?_ _) | (with_reducible refine Kd.C_drewN ?_ _) | (with_reducible refine Kd.C_drew ?_)))
 (case side2 => exact (Kd.R_reads' HO737.out).2.1)
 rintro e w18 ⟨v741, rfl, ho0, hb⟩
 refine ⟨_, rfl, ?_⟩
 have HO742 := Aside0.mk (Kd.R_lower (Kd.R_new' (Kd.R_new' (Kd.R_new' ho0 (Kd.R_lt (kr_ HO731.out))) (Kd.R_lt (kr_ HO734.out))) (Kd.R_lt (kr_ HO737.out))) (below_size (hg_ GE726.out)))
 replace HO731 := Aside0.mk (Kd.R_elder' (kr_ HO731.out) (Kd.R_base ho0) hb)
 replace HO734 := Aside0.mk (Kd.R_elder' (kr_ HO734.out) (Kd.R_base ho0) hb)
 replace HO737 := Aside0.mk (Kd.R_elder' (kr_ HO737.out) (Kd.R_base ho0) hb)
 replace BK726 := bb_ BK726.out hb
 replace HB := Aside0.mk (below_step (hg_ GE726.out) hb)
 (try clear hb)
 (try clear hb2)
 (try clear hk)
 (try clear hi)
 (try clear ho0)
 refine hK.out _ _ ⟨(blk_cell BK726.out 0).trans rfl, (blk_cell BK726.out 1).trans rfl, (blk_cell BK726.out 2).trans rfl⟩ (fun hHeld => ?_)
 clear hK K
 refine norm_ (a' := ?_) ?_ ?_
 rotate_left
 ·
  show Act.put _ (some 34) _ = _
  simp only [puts_]
  rfl
 refine pq_ 7 (some 27) (m_ 14 255) (h := ?_)
 refine pq_ 8 (some 35) (m_ 14 511) (h := ?_)
 refine pq_ 9 (some 36) (m_ 14 1023) (h := ?_)
 refine pq_ 10 (some 37) (m_ 14 2047) (h := ?_)
 refine pq_ 11 (some 11) (m_ 14 4095) (h := ?_)
 refine pq_ 12 (some 12) (m_ 14 8191) (h := ?_)
 refine pq_ 13 (some 13) (m_ 14 16383) (h := ?_)
 refine done_ (done_of HT_.out (by kernel_rfl)) ?_
 obtain ⟨Ao19, co19, eo19⟩ := Kd.R_slice HO734.out
 subst eo19
 obtain ⟨Ao20, co20, eo20⟩ := Kd.R_slice HO742.out
 subst eo20
 try go_wp2
 go_loopg [45] k (fun kq v45 w' => ∃ (x45_1 : Int), v45 = .int .i64 x45_1 ∧ Aside0 (honeycomblaw07_commutes.l0 kq t732 t738 (t738.length : Int) x45_1 = some r) ∧ Aside0 (kq ≤ k) ∧ Aside0 (Kd.R k60 60 w' w.heap.size (fun k_ => some k_ ≠ ((.slice Ao20 t738.length co20) : Value).ownBlock) (.slice Ao19 t732.length co19) t732) ∧ Aside0 (Kd.R k60 60 w' w.heap.size (fun k_ => some k_ ≠ ((.slice Ao19 t732.length co19) : Value).ownBlock) (.slice Ao20 t738.length co20) t738) ∧ Aside0 (w'.heap[gb726]? = some (.cells #[.int .i64 a0_0, (.slice A0_1 l0_1.length c0_1), (.slice A0_2 l0_2.length c0_2)] 55 (0, 0))) ∧ Aside0 (Below w.heap.size w w'))
 case atStart => exact ⟨(0), rs_, H', ⟨Nat.le_refl _⟩, ⟨by (with_reducible repeat (first | apply Kd.R_alloc | apply Kd.R_drewN | apply Kd.R_drew)); exact Kd.R_mono HO734.out (fun _ hk => hk.2)⟩, ⟨by (with_reducible repeat (first | apply Kd.R_alloc | apply Kd.R_drewN | apply Kd.R_drew)); exact Kd.R_mono HO742.out (fun _ hk => hk.1.2)⟩, ⟨bk_ BK726.out⟩, ⟨by repeat (first | (with_reducible first | exact HB.out | apply ba_ | apply bn_ | apply bd_ | refine below_set ?_ GE726.out) | exact HB.out)⟩⟩
 case round =>
  clear H'
  try clear c2
  try clear p2
  try clear c4
  try clear c7
  try clear c8
  try clear c8b0
  try clear c8b1
  try clear c8b2
  try clear hcz10_0
  try clear hcz10_1
  try clear hcz10_2
  try clear hcz12_0
  try clear hcz12_1
  try clear hcz12_2
  try clear hfz10_0
  try clear hfz10_1
  try clear hfz10_2
  try clear hfz12_0
  try clear hfz12_1
  try clear hfz12_2
  obtain ⟨x45_1, rfl, HA, HK1, HO_10, HO_11, BK726, HB⟩ := hrel
  cases gk with
  | zero => exact absurd HA.out (by simp [honeycomblaw07_commutes.l0])
  | succ k1 =>
   have H := HA.out
   clear HA
   simp only [honeycomblaw07_commutes.l0] at H
   by_cases c21 : x45_1 < (t738.length : Int)
   rotate_left
   ·
    rw [if_neg c21] at H
    have c21b0 : decide (x45_1 < (t738.length : Int)) = false := decide_eq_false c21
    clear c21
    obtain rfl := Option.some.inj H
    go_wp2
    go_ret
    exact ⟨er_, hg_ GE726.out⟩
   rw [if_pos c21] at H
   have c21b0 : decide (x45_1 < (t738.length : Int)) = true := decide_eq_true c21
   clear c21
   by_cases c22 : 0 ≤ x45_1
   rotate_left
   ·
    rw [if_neg c22] at H
    exact absurd H (by simp)
   rw [if_pos c22] at H
   have c22b0 : decide (0 ≤ x45_1) = true := decide_eq_true c22
   clear c22
   by_cases c23 : x45_1 < (t732.length : Int)
   rotate_left
   ·
    rw [if_neg c23] at H
    exact absurd H (by simp)
   rw [if_pos c23] at H
   have c23b0 : decide (x45_1 < (t732.length : Int)) = true := decide_eq_true c23
   clear c23
   by_cases c24 : x45_1 < (t738.length : Int)
   rotate_left
   ·
    rw [if_neg c24] at H
    exact absurd H (by simp)
   rw [if_pos c24] at H
   have c24b0 : decide (x45_1 < (t738.length : Int)) = true := decide_eq_true c24
   clear c24
   by_cases c25 : (!(((rd_T60 t732 x45_1).f0) == ((rd_T60 t738 x45_1).f0)) || (!(((rd_T60 t732 x45_1).f1) == ((rd_T60 t738 x45_1).f1)) || (!(((rd_T60 t732 x45_1).f2) == ((rd_T60 t738 x45_1).f2))))) = true
   ·
    rw [if_pos c25] at H
    have c25b0 : (!(((rd_T60 t732 x45_1).f0) == ((rd_T60 t738 x45_1).f0)) || (!(((rd_T60 t732 x45_1).f1) == ((rd_T60 t738 x45_1).f1)) || (!(((rd_T60 t732 x45_1).f2) == ((rd_T60 t738 x45_1).f2))))) = true := c25
    clear c25
    obtain rfl := Option.some.inj H
    try go_wp2
    replace HO_10 := Aside0.mk (Kd.R_drew HO_10.out)
    replace HO_11 := Aside0.mk (Kd.R_drew HO_11.out)
    replace BK726 := Aside0.mk (blk_drew BK726.out)
    replace HB := Aside0.mk (below_drew1 HB.out)
    have p743 : 0 ≤ (x45_1 : Int) := of_decide_eq_true as_
    have q743 : x45_1 < (t732.length : Int) := of_decide_eq_true as_
    obtain ⟨ad743, e743, hx743_0, hx743_1, hx743_2⟩ := at_T60 (Kd.R_reads' HO_10.out).2.2 x45_1 p743 q743
    cases e743
    replace p743 := eq_true p743
    replace q743 := eq_true q743
    have p744 : 0 ≤ (x45_1 : Int) := of_decide_eq_true as_
    have q744 : x45_1 < (t738.length : Int) := of_decide_eq_true as_
    obtain ⟨ad744, e744, hx744_0, hx744_1, hx744_2⟩ := at_T60 (Kd.R_reads' HO_11.out).2.2 x45_1 p744 q744
    cases e744
    replace p744 := eq_true p744
    replace q744 := eq_true q744
    refine start_ (n := 9) (S := fun w' => w'.cell? (ad743.add ((x45_1).toNat * 3)) = some (.int .i64 ((rd_T60 t732 x45_1).f0)) ∧ w'.cell? ⟨(ad743.add ((x45_1).toNat * 3)).block, (ad743.add ((x45_1).toNat * 3)).off + 1, none⟩ = some (.int .i64 ((rd_T60 t732 x45_1).f1)) ∧ w'.cell? ⟨(ad743.add ((x45_1).toNat * 3)).block, (ad743.add ((x45_1).toNat * 3)).off + 2, none⟩ = some (.int .i64 ((rd_T60 t732 x45_1).f2)) ∧ w'.cell? (ad744.add ((x45_1).toNat * 3)) = some (.int .i64 ((rd_T60 t738 x45_1).f0)) ∧ w'.cell? ⟨(ad744.add ((x45_1).toNat * 3)).block, (ad744.add ((x45_1).toNat * 3)).off + 1, none⟩ = some (.int .i64 ((rd_T60 t738 x45_1).f1)) ∧ w'.cell? ⟨(ad744.add ((x45_1).toNat * 3)).block, (ad744.add ((x45_1).toNat * 3)).off + 2, none⟩ = some (.int .i64 ((rd_T60 t738 x45_1).f2))) (ds := []) (m_ 9 0) (by kernel_rfl) rfl rfl ⟨hx743_0, hx743_1, hx743_2, hx744_0, hx744_1, hx744_2⟩ (fun hHeld => ?_); refine with_tabW honeycomblaw07_commutes.tab9 honeycomblaw07_commutes.bits9 (fun HT_ HW_ => ?_)
    generalize wr.drew = w26 at HO_10 HO_11 BK726 HB hx743_0 hx743_1 hx743_2 hx744_0 hx744_1 hx744_2 hHeld ⊢
    refine pq_ 0 (some 48) (m_ 9 1) (h := ?_)
    refine pq_ 1 (some 49) (m_ 9 3) (h := ?_)
    refine pq_ 2 (some 50) (m_ 9 7) (h := ?_)
    refine pq_ 4 (some 52) (m_ 9 23) (h := ?_)
    refine pq_ 5 (some 53) (m_ 9 55) (h := ?_)
    refine pq_ 6 (some 54) (m_ 9 119) (h := ?_)
    refine tq6_ 3 (some 51) (m_ 9 127) (h := ?_)
    refine tq6_ 7 (some 55) (m_ 9 255) (h := ?_)
    refine pq_ 8 (some 56) (m_ 9 511) (h := ?_)
    refine done_ (done_of HT_.out (by kernel_rfl)) ?_
    try go_wp2
    go_ret
    exact ⟨er_, hg_ GE726.out⟩
   rw [if_neg c25] at H
   have c25b0 : (!(((rd_T60 t732 x45_1).f0) == ((rd_T60 t738 x45_1).f0)) || (!(((rd_T60 t732 x45_1).f1) == ((rd_T60 t738 x45_1).f1)) || (!(((rd_T60 t732 x45_1).f2) == ((rd_T60 t738 x45_1).f2))))) = false := by simpa using c25
   clear c25
   have H' := Aside0.mk H
   clear H
   try go_wp2
   replace HO_10 := Aside0.mk (Kd.R_drew HO_10.out)
   replace HO_11 := Aside0.mk (Kd.R_drew HO_11.out)
   replace BK726 := Aside0.mk (blk_drew BK726.out)
   replace HB := Aside0.mk (below_drew1 HB.out)
   have p743 : 0 ≤ (x45_1 : Int) := of_decide_eq_true as_
   have q743 : x45_1 < (t732.length : Int) := of_decide_eq_true as_
   obtain ⟨ad743, e743, hx743_0, hx743_1, hx743_2⟩ := at_T60 (Kd.R_reads' HO_10.out).2.2 x45_1 p743 q743
   cases e743
   replace p743 := eq_true p743
   replace q743 := eq_true q743
   have p744 : 0 ≤ (x45_1 : Int) := of_decide_eq_true as_
   have q744 : x45_1 < (t738.length : Int) := of_decide_eq_true as_
   obtain ⟨ad744, e744, hx744_0, hx744_1, hx744_2⟩ := at_T60 (Kd.R_reads' HO_11.out).2.2 x45_1 p744 q744
   cases e744
   replace p744 := eq_true p744
   replace q744 := eq_true q744
   refine start_ (n := 9) (S := fun w' => w'.cell? (ad743.add ((x45_1).toNat * 3)) = some (.int .i64 ((rd_T60 t732 x45_1).f0)) ∧ w'.cell? ⟨(ad743.add ((x45_1).toNat * 3)).block, (ad743.add ((x45_1).toNat * 3)).off + 1, none⟩ = some (.int .i64 ((rd_T60 t732 x45_1).f1)) ∧ w'.cell? ⟨(ad743.add ((x45_1).toNat * 3)).block, (ad743.add ((x45_1).toNat * 3)).off + 2, none⟩ = some (.int .i64 ((rd_T60 t732 x45_1).f2)) ∧ w'.cell? (ad744.add ((x45_1).toNat * 3)) = some (.int .i64 ((rd_T60 t738 x45_1).f0)) ∧ w'.cell? ⟨(ad744.add ((x45_1).toNat * 3)).block, (ad744.add ((x45_1).toNat * 3)).off + 1, none⟩ = some (.int .i64 ((rd_T60 t738 x45_1).f1)) ∧ w'.cell? ⟨(ad744.add ((x45_1).toNat * 3)).block, (ad744.add ((x45_1).toNat * 3)).off + 2, none⟩ = some (.int .i64 ((rd_T60 t738 x45_1).f2))) (ds := []) (m_ 9 0) (by kernel_rfl) rfl rfl ⟨hx743_0, hx743_1, hx743_2, hx744_0, hx744_1, hx744_2⟩ (fun hHeld => ?_); refine with_tabW honeycomblaw07_commutes.tab9 honeycomblaw07_commutes.bits9 (fun HT_ HW_ => ?_)
   generalize wr.drew = w27 at HO_10 HO_11 BK726 HB hx743_0 hx743_1 hx743_2 hx744_0 hx744_1 hx744_2 hHeld ⊢
   refine pq_ 0 (some 48) (m_ 9 1) (h := ?_)
   refine pq_ 1 (some 49) (m_ 9 3) (h := ?_)
   refine pq_ 2 (some 50) (m_ 9 7) (h := ?_)
   refine pq_ 4 (some 52) (m_ 9 23) (h := ?_)
   refine pq_ 5 (some 53) (m_ 9 55) (h := ?_)
   refine pq_ 6 (some 54) (m_ 9 119) (h := ?_)
   refine tq6_ 3 (some 51) (m_ 9 127) (h := ?_)
   refine tq6_ 7 (some 55) (m_ 9 255) (h := ?_)
   refine pq_ 8 (some 56) (m_ 9 511) (h := ?_)
   refine done_ (done_of HT_.out (by kernel_rfl)) ?_
   try go_wp2
   go_roundg k1
   case measure => have := HK1.out; omega
   case rel => exact ⟨(wrap64 (x45_1 + 1)), rs_, H', ⟨by have := HK1.out; omega⟩, ⟨kr_ HO_10.out⟩, ⟨kr_ HO_11.out⟩, ⟨bk_ BK726.out⟩, ⟨by repeat (first | (with_reducible first | exact HB.out | apply ba_ | apply bn_ | apply bd_ | refine below_set ?_ GE726.out) | exact HB.out)⟩⟩
end H
theorem r03_f (L o : Int) (hL : 1 ≤ L ∧ L ≤ 3) (x : CL) (h0 : 0 ≤ o) (h1 : o < 12) (hok : hOK L x.f1) (hg : goodP x.f0.f0 x.f0.f1) :
    XROn.f L o x.f0.f0 x.f0.f1 x.f1 = some ((onC L o x).f0.f0, (onC L o x).f0.f1, (onC L o x).f1) := by
 unfold XROn.f
 rw [if_pos ⟨hL, ⟨h0, h1⟩, hg, hok.1, hok.2⟩]
 rfl
theorem turn_l0 (L o : Int) (hL : 1 ≤ L ∧ L ≤ 3) (h0 : 0 ≤ o) (h1 : o < 12) (s : List CL) (R : Int) (hR : R ≤ 100000) (hbx : Bx L R s) (hn : s.length ≤ 1000) : ∀ (d k j : Nat) (acc : List CL), j + d = s.length → 3 * d + 6000 ≤ k → acc.length ≤ j →
    honeycombref04_Turn.l0 k L o (acc.map told) (s.map told) ((s.map told).length : Int) j = some ((ofL (acc ++ (s.drop j).map (onC L o))).map told, 0, -1) := by
 intro d
 induction d with
 | zero =>
  intro k j acc hj hk ha
  obtain ⟨k, rfl⟩ : ∃ m, k = m + 1 := ⟨k - 1, by omega⟩
  simp only [honeycombref04_Turn.l0]
  rw [if_neg (by rw [List.length_map]; omega), ofR_f k acc (by omega) (by omega), List.drop_eq_nil_of_le (by omega)]
  simp
 | succ d ih =>
  intro k j acc hj hk ha
  obtain ⟨k, rfl⟩ : ∃ m, k = m + 20 := ⟨k - 20, by omega⟩
  have hjl : j < s.length := by omega
  have hc := hbx s[j] (List.getElem_mem hjl)
  have hdrop := List.drop_eq_getElem_cons hjl
  obtain ⟨e, he⟩ : ∃ e, e = s[j] := ⟨_, rfl⟩
  rw [← he] at hc hdrop
  have hrd : rd_T60 (s.map told) j = told e := by rw [rdT s j hjl, he]
  obtain ⟨hok, hx, hy⟩ := hc
  have hgd : goodP e.f0.f0 e.f0.f1 := by unfold goodP; omega
  have hck : checkR L e.f0.f0 e.f0.f1 e.f1 = none := checkR_good hL.1 hL.2 hok hgd
  have hbd := onC_bd L o e R h0 h1 hok hx.1 hx.2 hy.1 hy.2
  have hon := r03_f L o hL e h0 h1 hok hgd
  have hgo : goodP (onC L o e).f0.f0 (onC L o e).f0.f1 := by unfold goodP; omega
  have hchk := refCheck_f (k + 17) L e.f0.f0 e.f0.f1 e.f1
  rw [show k + 17 + 2 = k + 19 from rfl, hck] at hchk
  rw [show k + 20 = (k + 19) + 1 from rfl]
  simp only [honeycombref04_Turn.l0]
  rw [if_pos (by rw [List.length_map]; omega), if_pos (by omega), if_pos (by rw [List.length_map]; omega), hrd]
  simp only [told]
  rw [hchk, Option.bind_some, Option.getD_none, if_pos rfl, if_neg (by omega), decide_eq_false (by omega)]
  rw [show k + 19 = (k + 18) + 1 from rfl]
  simp only [honeycombref04_Turn.j1]
  rw [if_neg (by decide), hon, Option.bind_some]
  simp only
  rw [refGood_f, decide_eq_true hgo, Option.bind_some, if_pos rfl, if_pos (by rw [List.length_map]; omega), w64i ((j : Int) + 1) (by omega) (by omega)]
  have := ih (k + 18) (j + 1) (acc ++ [onC L o e]) (by omega) (by omega) (by rw [List.length_append]; simp; omega)
  rw [List.map_append] at this
  rw [hdrop, List.map_cons]
  rw [List.append_assoc, List.singleton_append] at this
  exact this
theorem turn_f (K : Nat) (L o : Int) (hL : 1 ≤ L ∧ L ≤ 3) (h0 : 0 ≤ o) (h1 : o < 12) (s : List CL) (R : Int) (hR : R ≤ 100000) (hbx : Bx L R s) (hn : s.length ≤ 1000) (hK : 10000 ≤ K) : honeycombref04_Turn.f K L o (s.map told) = some ((onL L o s).map told, 0, -1) := by
 unfold honeycombref04_Turn.f onL
 exact turn_l0 L o hL h0 h1 s R hR hbx hn s.length K 0 [] (by omega) (by omega) (by simp)
theorem comm_l0 (a b : List CL) (hab : a.length = b.length) (hn : b.length ≤ 1000) : ∀ (d k j : Nat), j + d = b.length → d < k → honeycomblaw07_commutes.l0 k (a.map told) (b.map told) ((b.map told).length : Int) j = some (decide (a.drop j = b.drop j)) := by
 intro d
 induction d with
 | zero =>
  intro k j hj hk
  obtain ⟨k, rfl⟩ : ∃ m, k = m + 1 := ⟨k - 1, by omega⟩
  simp only [honeycomblaw07_commutes.l0]
  rw [if_neg (by rw [List.length_map]; omega), List.drop_eq_nil_of_le (by omega), List.drop_eq_nil_of_le (by omega)]
  simp
 | succ d ih =>
  intro k j hj hk
  obtain ⟨k, rfl⟩ : ∃ m, k = m + 1 := ⟨k - 1, by omega⟩
  have h1 : j < b.length := by omega
  have h2 : j < a.length := by omega
  have hw : wrap64 ((j : Int) + 1) = ((j + 1 : Nat) : Int) := by rw [w64i ((j : Int) + 1) (by omega) (by omega)]; rfl
  simp only [honeycomblaw07_commutes.l0]
  rw [if_pos (by rw [List.length_map]; omega), if_pos (by omega), if_pos (by rw [List.length_map]; omega), if_pos (by rw [List.length_map]; omega), rdT a j h2, rdT b j h1, hw]
  have hne : (!((told a[j]).f0 == (told b[j]).f0) || (!((told a[j]).f1 == (told b[j]).f1) || (!((told a[j]).f2 == (told b[j]).f2)))) = !decide (a[j] = b[j]) := neq3 a[j] b[j]
  rw [hne, ih k (j + 1) (by omega) (by omega), List.drop_eq_getElem_cons h1, List.drop_eq_getElem_cons h2]
  by_cases e : a[j] = b[j]
  ·rw [decide_eq_true e, if_neg (by decide), e]
   congr 1
   rw [decide_eq_decide]
   exact ⟨fun h => by rw [h], fun h => (List.cons.inj h).2⟩
  ·rw [decide_eq_false e, if_pos (by decide)]
   congr 1
   symm
   rw [decide_eq_false_iff_not]
   exact fun h => e (List.cons.inj h).1
theorem commutes_f (K : Nat) {L : Int} {b0 b1 s0 s1 : Nat} (hT : Tb L b0 b1 s0 s1) (o : Int) (h0 : 0 ≤ o) (h1 : o < 12) (s : List CL) (hs : Srt s) (R : Int) (hR : R ≤ 400) (hbx : Bx L R s) (hn : s.length ≤ 16) (hK : 10000 ≤ K) :
    honeycomblaw07_commutes.f K L [(b0 : Int), (b1 : Int)] [(s0 : Int), (s1 : Int)] o (s.map told) = some (decide (nextL (nxtV b0 b1 s0 s1) L (onL L o s) = onL L o (nextL (nxtV b0 b1 s0 s1) L s))) := by
 have hon : Bx L (2 * R + 2) (onL L o s) := by
  intro c hc
  unfold onL at hc
  rw [ofL_mem, List.mem_map] at hc
  obtain ⟨y, hy, rfl⟩ := hc
  obtain ⟨q1, q2, q3⟩ := hbx y hy
  exact ⟨onC_ok L o y h0 h1 q1, onC_bd L o y R h0 h1 q1 q2.1 q2.2 q3.1 q3.2⟩
 have hln : (onL L o s).length ≤ 16 := Nat.le_trans (ofL_le _) (by rw [List.length_map]; exact hn)
 obtain ⟨e1, _⟩ := rstep_far hT (onL L o s) (ofL_srt _) (2 * R + 2) (by omega) hon hln
 obtain ⟨e2, l2⟩ := rstep_far hT s hs R (by omega) hbx hn
 have hbn := hbx.next (nx := nxtV b0 b1 s0 s1) hT.1 (rule_zero hT) hs
 have e3 := turn_f K L o hT.1 h0 h1 s R (by omega) hbx (by omega) hK
 have e4 := turn_f K L o hT.1 h0 h1 (nextL (nxtV b0 b1 s0 s1) L s) (R + 1) (by omega) hbn (by omega) hK
 have hl4 : (onL L o (nextL (nxtV b0 b1 s0 s1) L s)).length ≤ 288 := Nat.le_trans (ofL_le _) (by rw [List.length_map]; exact l2)
 unfold honeycomblaw07_commutes.f
 rw [e3]
 simp only [Option.bind_some]
 rw [e1, e2]
 simp only [Option.bind_some]
 rw [e4]
 simp only [Option.bind_some]
 by_cases hl : (nextL (nxtV b0 b1 s0 s1) L (onL L o s)).length = (onL L o (nextL (nxtV b0 b1 s0 s1) L s)).length
 ·rw [if_pos (by rw [List.length_map, List.length_map, hl])]
  have := comm_l0 _ _ hl (by omega) (onL L o (nextL (nxtV b0 b1 s0 s1) L s)).length K 0 (by omega) (by omega)
  rw [show ((0 : Nat) : Int) = 0 from rfl] at this
  rw [this, List.drop_zero, List.drop_zero]
 ·rw [if_neg (by rw [List.length_map, List.length_map]; omega), decide_eq_false (fun e => hl (by rw [e]))]
def XTold5.f (l b0 b1 s0 s1 : Int) : Option (Int × List Int × List Int) := some (l, [b0, b1], [s0, s1])
theorem told5_any (l b0 b1 s0 s1 : Int) (w : World) :
    Calls Tryd.prog 27 #[.agg #[.int .i64 l, .int .u64 b0, .int .u64 b1, .int .u64 s0, .int .u64 s1]] w fun e w' => ∃ g : Nat, e = .returned (.agg #[.int .i64 l, .slice (some ⟨g, 1, none⟩) 2 2, .slice (some ⟨g, 3, none⟩) 2 2]) ∧ w'.heap[g]? = some (.cells #[.int .i64 l, .int .u64 b0, .int .u64 b1, .int .u64 s0, .int .u64 s1] 29 (0, 0)) ∧ w.heap.size ≤ g ∧ Below w.heap.size w w' := by
 go_enter Tryd.func27, Tryd.ntmps27
 go_upto_region 1 with (fail)
 obtain ⟨w2, hw2⟩ : ∃ W, W = (w.alloc (.cells #[.int .i64 l, .int .u64 b0, .int .u64 b1, .int .u64 s0, .int .u64 s1] 29 (0, 0))).alloc (.cells #[.int .i64 0, .slice none 0 0, .slice none 0 0] 55 (0, 0)) := ⟨_, rfl⟩
 have t1 : w2.heap[w.heap.size]? = some (.cells #[.int .i64 l, .int .u64 b0, .int .u64 b1, .int .u64 s0, .int .u64 s1] 29 (0, 0)) := by rw [hw2]; exact blk_alloc (blk_new _ _) _
 have t2 : w2.heap[w.heap.size + 1]? = some (.cells #[.int .i64 0, .slice none 0 0, .slice none 0 0] 55 (0, 0)) := by
  have := blk_new (w.alloc (.cells #[.int .i64 l, .int .u64 b0, .int .u64 b1, .int .u64 s0, .int .u64 s1] 29 (0, 0))) (.cells #[.int .i64 0, .slice none 0 0, .slice none 0 0] 55 (0, 0))
  rw [World.size_alloc] at this
  rw [hw2]
  exact this
 have hB : Below w.heap.size w w2 := by rw [hw2]; exact below_alloc2 (below_alloc (Below.refl _ _) _) (by simp) _
 rw [← hw2]
 clear hw2
 have hz := hB.size
 have hB2 := Aside0.mk hB
 have T1 := Aside0.mk t1
 have T2 := Aside0.mk t2
 obtain ⟨g1, hg1⟩ : ∃ g, g = w.heap.size := ⟨_, rfl⟩
 obtain ⟨g2, hg2⟩ : ∃ g, g = w.heap.size + 1 := ⟨_, rfl⟩
 rw [← hg1] at t1 T1
 rw [← hg2] at t2 T2 ⊢
 rw [← hg1]
 have hne : g2 ≠ g1 := by omega
 have hne' : g1 ≠ g2 := by omega
 have hgz1 : w.heap.size ≤ g1 := by omega
 have hgz2 : w.heap.size ≤ g2 := by omega
 have q0 := blk_cell t1 0
 have c0 := blk_cell t2 0
 have c1 := blk_cell t2 1
 have c2 := blk_cell t2 2
 have f0 := blk_frozen t2 0
 have f1 := blk_frozen t2 1
 have f2 := blk_frozen t2 2
 simp only [List.getElem?_toArray, List.getElem?_cons_zero, List.getElem?_cons_succ] at q0 c0 c1 c2
 clear hg1 hg2 t1 t2 hB
 go_region
 all_goals
  clear q0 f0 f1 f2 c0 c1 c2
  go_wp2
  have hr := blk_set (blk_set (blk_set (blk_drew T2.out) 0 (.int .i64 l)) 1 (.slice (some ⟨g1, 1, none⟩) 2 2)) 2 (.slice (some ⟨g1, 3, none⟩) 2 2)
  refine bodyPost_ret (results_cell_row rfl _ _ g2 55 #[.int .i64 l, .slice (some ⟨g1, 1, none⟩) 2 2, .slice (some ⟨g1, 3, none⟩) 2 2] (0, 0) _ rfl hr Tryd.underlying55 rfl (by kernel_rfl)) rfl ⟨g1, rfl, ?_, hgz1, ?_⟩
  ·exact (Below.heap_setCell _ ⟨g2, 2, none⟩ _ g1 hne').trans ((Below.heap_setCell _ ⟨g2, 1, none⟩ _ g1 hne').trans ((Below.heap_setCell _ ⟨g2, 0, none⟩ _ g1 hne').trans T1.out))
  ·exact Below.setCell (p := ⟨g2, 2, none⟩) (Below.setCell (p := ⟨g2, 1, none⟩) (Below.setCell (p := ⟨g2, 0, none⟩) (below_drew hB2.out) hgz2 _) hgz2 _) hgz2 _
theorem V_two {w : World} {g o t : Nat} {cells : Array Value} {ok : Nat → Prop} (e base : Nat) (a b : Int) (hb : w.heap[g]? = some (.cells cells t (0, 0))) (h0 : cells[o]? = some (.int .u64 a)) (h1 : cells[o + 1]? = some (.int .u64 b)) (hok : ok g) :
    Kd.V (Kd.int .u64) e w base ok (.slice (some ⟨g, o, none⟩) 2 2) [a, b] := by
 refine ⟨some ⟨g, o, none⟩, 2, rfl, Nat.le_refl _, fun W hW => ?_⟩
 have hlt := blk_lt hb
 have hb2 : W.heap[g]? = some (.cells cells t (0, 0)) := (hW g hok hlt).trans hb
 have e0 : W.cell? ⟨g, o, none⟩ = some (.int .u64 a) := (blk_cell hb2 o).trans h0
 have e1 : W.cell? ⟨g, o + 1, none⟩ = some (.int .u64 b) := (blk_cell hb2 (o + 1)).trans h1
 refine ⟨rfl, by simp, fun _ => ⟨_, rfl, fun j p hp => ?_⟩⟩
 have : j = 0 ∨ j = 1 := by
  have := (List.getElem?_eq_some_iff.1 hp).1
  simp at this
  omega
 rcases this with rfl | rfl
 ·obtain rfl : a = p := by simpa using hp
  refine ⟨[.int .u64 a], rfl, rfl, fun u v huv => ?_⟩
  have : u = 0 := by
   have := (List.getElem?_eq_some_iff.1 huv).1
   simp at this
   omega
  subst this
  obtain rfl : Value.int .u64 a = v := by simpa using huv
  exact e0
 ·obtain rfl : b = p := by simpa using hp
  refine ⟨[.int .u64 b], rfl, rfl, fun u v huv => ?_⟩
  have : u = 0 := by
   have := (List.getElem?_eq_some_iff.1 huv).1
   simp at this
   omega
  subst this
  obtain rfl : Value.int .u64 b = v := by simpa using huv
  exact e1
theorem XTold5.calls (a0_0 a0_1 a0_2 a0_3 a0_4 : Int) (r1 : Int) (r2 r3 : List Int) (w : World) (h : XTold5.f a0_0 a0_1 a0_2 a0_3 a0_4 = some (r1, r2, r3)) :
    Calls Tryd.prog 27 #[.agg #[.int .i64 a0_0, .int .u64 a0_1, .int .u64 a0_2, .int .u64 a0_3, .int .u64 a0_4]] w fun e w' => ∃ v0_ v1_ : Value, e = .returned (.agg #[.int .i64 r1, v0_, v1_]) ∧ Kd.V (Kd.int .u64) 22 w' w.heap.size (fun k_ => w.heap.size ≤ k_) v0_ r2 ∧ Kd.V (Kd.int .u64) 22 w' w.heap.size (fun k_ => w.heap.size ≤ k_) v1_ r3 ∧ Below w.heap.size w w' := by
 simp only [XTold5.f, Option.some.injEq, Prod.mk.injEq] at h
 obtain ⟨rfl, rfl, rfl⟩ := h
 refine (told5_any a0_0 a0_1 a0_2 a0_3 a0_4 w).mono ?_
 rintro e w' ⟨g, rfl, hg, hgz, hb⟩
 exact ⟨_, _, rfl, V_two _ _ _ _ hg rfl rfl hgz, V_two _ _ _ _ hg rfl rfl hgz, hb⟩
theorem whole_tb {L : Int} {b0 b1 s0 s1 : Nat} (hT : Tb L b0 b1 s0 s1) (hc : L ≠ 1 → checkT L b0 b0 s0 s0 = none) (K : Nat) (hK : 150 ≤ K) :
    ∃ c0 c1 d0 d1 : Nat, honeycomblaw07_whole.f K L b0 b1 s0 s1 = some (L, (c0 : Int), (c1 : Int), (d0 : Int), (d1 : Int)) ∧ Tb L c0 c1 d0 d1 := by
 obtain ⟨hL, _, e0, e1, l0, l1, l2, l3, hz⟩ := hT
 by_cases h : L = 1
 ·subst h
  exact ⟨18054054079169302, 0, 10546641918665472585, 0, whole_hex K hK _ _ _ _, hL, whole_check, rfl, rfl, by decide, by decide, by decide, by decide, fun _ => ⟨rfl, rfl⟩⟩
 ·exact ⟨b0, b0, s0, s0, whole_tri K L _ _ _ _ h, hL, hc h, e0, e0, l0, l0, l2, l2, fun e => absurd e h⟩
theorem some_whole (l : Int) (B B1 S S1 : Nat) (hB : B < 18446744073709551616) (hB1 : B1 < 18446744073709551616) (hS : S < 18446744073709551616) (hS1 : S1 < 18446744073709551616) {L : Int} {b0 b1 s0 s1 : Nat} (hsome : XSome5.f l B B1 S S1 = some (L, (b0 : Int), (b1 : Int), (s0 : Int), (s1 : Int))) : L ≠ 1 → checkT L b0 b0 s0 s0 = none := by
 obtain ⟨L', x0, x1, y0, y1, hs', _, _, _, h5⟩ := some_check l B B1 S S1 hB hB1 hS hS1
 rw [hsome] at hs'
 have e := Option.some.inj hs'
 simp only [Prod.mk.injEq] at e
 obtain ⟨e1, e2, e3, e4, e5⟩ := e
 subst e1
 rw [← e2, ← e4] at h5
 exact h5
end Go.Proofs.YtaeenefdbahfoaaDoor
