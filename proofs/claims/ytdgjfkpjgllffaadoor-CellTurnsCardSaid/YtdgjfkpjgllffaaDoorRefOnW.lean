/- The document's On at triangles: the walk. -/
import Derived.Test.YtdgjfkpjgllffaaDoorRefOn
namespace Go.Proofs.YtdgjfkpjgllffaaDoor
open Go.RowKit Go.Proofs.YtdgjfkpjgllffaaDoorW.PrintWords Go.Proofs.YtdgjfkpjgllffaaDoorW.PrintLast Go.Proofs.YtdgjfkpjgllffaaDoorW.PrintMore
open H
open Go.Shelf Go.RowKit Go.Lib Go.Sort

theorem rcorn_bd (o a b h : Int) (ho : 0 ≤ o) (ho' : o < 12) (hg : goodP a b) (k : Nat) : (-4000000000000 ≤ (rcorn o a b h k).1 ∧ (rcorn o a b h k).1 ≤ 4000000000000) ∧ (-4000000000000 ≤ (rcorn o a b h k).2 ∧ (rcorn o a b h k).2 ≤ 4000000000000) := by
  obtain ⟨g1, g2, g3, g4⟩ := hg
  unfold rcorn
  have : (-2000000000000 ≤ (cornA a b h k).1 ∧ (cornA a b h k).1 ≤ 2000000000000) ∧ (-2000000000000 ≤ (cornA a b h k).2 ∧ (cornA a b h k).2 ≤ 2000000000000) := by
    unfold cornA
    split <;> split <;> (try split) <;> (simp only []; omega)
  exact rot_bd o _ _ ho ho' this.1.1 this.1.2 this.2.1 this.2.2
theorem low_bd (q : Nat → Int × Int) (hq : ∀ k, (-4000000000000 ≤ (q k).1 ∧ (q k).1 ≤ 4000000000000) ∧ (-4000000000000 ≤ (q k).2 ∧ (q k).2 ≤ 4000000000000)) : ∀ k, k ≤ 3 → (-4000000000000 ≤ (lowK q k).1 ∧ (lowK q k).1 ≤ 1152921504606846976) ∧ (-4000000000000 ≤ (lowK q k).2.1 ∧ (lowK q k).2.1 ≤ 1152921504606846976) ∧ (-(8000000000000 * (k : Int)) ≤ (lowK q k).2.2 ∧ (lowK q k).2.2 ≤ 8000000000000 * (k : Int))
  | 0, _ => by simp [lowK]
  | k + 1, hk => by
    have := low_bd q hq k (by omega)
    have := hq k
    simp only [lowK]
    omega

theorem results_c {P : Program} {fn : Func} {p : Tmp} {ty : TypeId} (h : fn.results = #[.cell p ty]) (tmps : Array Value) (w : World) (g : Nat) (t : TypeId) (cs : Array Value) (fr : Nat × Nat) (d : TypeDesc)
    (hp : tmps.getD p undef = .pointer (some ⟨g, 0, none⟩)) (hg : w.heap[g]? = some (.cells cs t fr))
    (hu : P.underlying ty = some d) (hd : (match d with | .struct _ | .array _ _ => true | _ => false) = true) (hi : (P.info? ty).map (·.size) = some cs.size) :
    (results fn tmps).run P w = .ok (.agg cs) w := by
  have hp' : tmps[p]?.getD undef = .pointer (some ⟨g, 0, none⟩) := by simpa using hp
  simp [results, h, hp', asAddr, run_loadVar_row w g t ty cs fr d hg hu hd hi]
theorem blk_at {w : World} {n : Nat} (o : Obj) (h : w.heap.size = n) : (w.alloc o).heap[n]? = some o := by
  subst h
  exact heap_alloc_new w o

set_option maxRecDepth 100000 in
set_option maxHeartbeats 4000000 in
theorem refOnT_any (l o a b h : Int) (w : World) (hl : 2 ≤ l) (hl' : l ≤ 3) (ho : 0 ≤ o) (ho' : o < 12) (hg : goodP a b) (hh : h = 0 ∨ h = 1) :
    Calls Tryd.prog 37 #[.int .i64 l, .int .i64 o, .agg #[.int .i64 a, .int .i64 b, .int .i64 h]] w fun e w' => e = .returned (.agg #[.int .i64 (refOnT o a b h).1, .int .i64 (refOnT o a b h).2.1, .int .i64 (refOnT o a b h).2.2]) ∧ Below w.heap.size w w' := by
  have hq := rcorn_bd o a b h ho ho' hg
  have hlow := low_bd (rcorn o a b h) hq
  have HQ := Aside0.mk hq
  have HL := Aside0.mk hlow
  have HR := Aside0.mk (fun x y W => ref01On_any o x y W ho ho')
  obtain ⟨g1, g2, g3, g4⟩ := hg
  clear hq hlow
  unfold refOnT
  rcases hh with rfl | rfl
  · go_enter Tryd.func37, Tryd.ntmps37
    go_wp2
    obtain ⟨W, hW⟩ : ∃ W, W = ((((((((w.alloc (.cells #[.int .i64 a, .int .i64 b, .int .i64 0] 23)).alloc (.cells #[.int .i64 0, .int .i64 0, .int .i64 0] 23)).alloc (.cells #[.int .i64 1152921504606846976, .int .i64 1152921504606846976] 2)).alloc (.cells #[.int .i64 a, .int .i64 b, .int .i64 0] 23)).alloc (.cells #[.int .i64 (a), .int .i64 (b)] 2)).alloc (.cells #[.int .i64 (a + 1), .int .i64 (b)] 2)).alloc (.cells #[.int .i64 (a), .int .i64 (b + 1)] 2)).alloc (.cells #[.slice (some ⟨w.heap.size + 1 + 1 + 1 + 1, 0, none⟩) 2 2, .slice (some ⟨w.heap.size + 1 + 1 + 1 + 1 + 1, 0, none⟩) 2 2, .slice (some ⟨w.heap.size + 1 + 1 + 1 + 1 + 1 + 1, 0, none⟩) 2 2] 89)) := ⟨_, rfl⟩
    have hBW : Below w.heap.size w W := by rw [hW]; exact (by with_reducible repeat (first | apply below_alloc | apply pw_below_drewN | apply below_drew | refine bset ?_ _ _ (by omega) _ | exact Below.refl _ _))
    have hzW : W.heap.size = w.heap.size + 1 + 1 + 1 + 1 + 1 + 1 + 1 + 1 := by rw [hW]; simp
    have hbR : W.heap[w.heap.size + 1]? = some (.cells #[.int .i64 0, .int .i64 0, .int .i64 0] 23 (0, 0)) := by
      rw [hW]
      exact blk_alloc (blk_alloc (blk_alloc (blk_alloc (blk_alloc (blk_alloc (blk_at _ (by simp)) _) _) _) _) _) _
    have hbL : W.heap[w.heap.size + 1 + 1]? = some (.cells #[.int .i64 1152921504606846976, .int .i64 1152921504606846976] 2 (0, 0)) := by
      rw [hW]
      exact blk_alloc (blk_alloc (blk_alloc (blk_alloc (blk_alloc (blk_at _ (by simp)) _) _) _) _) _
    have hbO : W.heap[w.heap.size + 1 + 1 + 1 + 1 + 1 + 1 + 1]? = some (.cells #[.slice (some ⟨w.heap.size + 1 + 1 + 1 + 1, 0, none⟩) 2 2, .slice (some ⟨w.heap.size + 1 + 1 + 1 + 1 + 1, 0, none⟩) 2 2, .slice (some ⟨w.heap.size + 1 + 1 + 1 + 1 + 1 + 1, 0, none⟩) 2 2] 89 (0, 0)) := by
      rw [hW]
      exact blk_at _ (by simp)
    have hb0 : W.heap[w.heap.size + 1 + 1 + 1 + 1]? = some (.cells #[.int .i64 (a), .int .i64 (b)] 2 (0, 0)) := by
      rw [hW]
      exact blk_alloc (blk_alloc (blk_alloc (blk_at _ (by simp)) _) _) _
    have hb1 : W.heap[w.heap.size + 1 + 1 + 1 + 1 + 1]? = some (.cells #[.int .i64 (a + 1), .int .i64 (b)] 2 (0, 0)) := by
      rw [hW]
      exact blk_alloc (blk_alloc (blk_at _ (by simp)) _) _
    have hb2 : W.heap[w.heap.size + 1 + 1 + 1 + 1 + 1 + 1]? = some (.cells #[.int .i64 (a), .int .i64 (b + 1)] 2 (0, 0)) := by
      rw [hW]
      exact blk_alloc (blk_at _ (by simp)) _
    rw [← hW]
    have BR := Aside0.mk hbR
    have BL := Aside0.mk hbL
    have BO := Aside0.mk hbO
    have B0 := Aside0.mk hb0
    have B1 := Aside0.mk hb1
    have B2 := Aside0.mk hb2
    have HBW := Aside0.mk hBW
    clear hW hBW hbR hbL hbO hb0 hb1 hb2
    go_loopw [10, 34] (fun sm i wr => ∃ k : Nat, k ≤ 3 ∧ i = .int .i64 k ∧ sm = .int .i64 (lowK (rcorn o a b 0) k).2.2 ∧ W.grownBy wr (some (w.heap.size + 1 + 1)) ∧ wr.heap[w.heap.size + 1 + 1]? = some (.cells #[.int .i64 (lowK (rcorn o a b 0) k).1, .int .i64 (lowK (rcorn o a b 0) k).2.1] 2 (0, 0))) (fun _ i _ => 3 - (intOf i).toNat)
    case atStart => exact ⟨0, by omega, rfl, rfl, ⟨rfl, rfl, rfl, Nat.le_refl _, fun _ _ _ => rfl⟩, BL.out⟩
    case round =>
      obtain ⟨k, hk, rfl, rfl, hG, hL⟩ := hrel
      have hbk := fun i hi hne => hG.block i hi hne
      have cO := (hG.block (w.heap.size + 1 + 1 + 1 + 1 + 1 + 1 + 1) (blk_lt BO.out) (by intro e; have := Option.some.inj e; omega)).trans BO.out
      have c0 := (hG.block (w.heap.size + 1 + 1 + 1 + 1) (blk_lt B0.out) (by intro e; have := Option.some.inj e; omega)).trans B0.out
      have c1 := (hG.block (w.heap.size + 1 + 1 + 1 + 1 + 1) (blk_lt B1.out) (by intro e; have := Option.some.inj e; omega)).trans B1.out
      have c2 := (hG.block (w.heap.size + 1 + 1 + 1 + 1 + 1 + 1) (blk_lt B2.out) (by intro e; have := Option.some.inj e; omega)).trans B2.out
      have l0 := blk_cell hL 0
      have l1 := blk_cell hL 1
      have lf := blk_frozen hL
      have GG := Aside0.mk hG
      have LL := Aside0.mk hL
      obtain ⟨⟨q1, q2⟩, ⟨q3, q4⟩⟩ := HQ.out k
      obtain ⟨⟨s1, s2⟩, ⟨s3, s4⟩, ⟨s5, s6⟩⟩ := HL.out k hk
      clear hbk hG hL
      by_cases hlt : k < 3
      · have hk3 : k = 0 ∨ k = 1 ∨ k = 2 := by omega
        rcases hk3 with rfl | rfl | rfl
        · have u0 := blk_cell cO 0
          have x0 := blk_cell c0 0
          have x1 := blk_cell c0 1
          have hr : ∀ W, Calls Tryd.prog 50 #[.int .i64 o, .int .i64 (a), .int .i64 (b)] W fun e w' => e = .returned (.tuple #[.int .i64 (rcorn o a b 0 0).1, .int .i64 (rcorn o a b 0 0).2]) ∧ ∃ n, w' = W.drewN n := fun W => HR.out (a) (b) W (by omega) (by omega) (by omega) (by omega)
          generalize hla : (lowK (rcorn o a b 0) 0).1 = la at *
          generalize hlb : (lowK (rcorn o a b 0) 0).2.1 = lb at *
          generalize hlc : (lowK (rcorn o a b 0) 0).2.2 = lc at *
          generalize hqa : (rcorn o a b 0 0).1 = qa at *
          generalize hqb : (rcorn o a b 0 0).2 = qb at *
          have EQ := Aside0.mk (And.intro hla (And.intro hlb (And.intro hlc (And.intro hqa hqb))))
          clear hla hlb hlc hqa hqb
          go_wp2_with fail
          go_quiet (first | (go_at_call 50; exact Calls.quiet_of (hr _)))
          go_wp2
          go_roundw
          case rel =>
            refine ⟨1, by omega, rfl, by rw [← EQ.out.2.2.1, ← EQ.out.2.2.2.1, ← EQ.out.2.2.2.2]; rfl, grownBy_set (grownBy_set (grownBy_drewN GG.out _) _ _) _ _, ?_⟩
            have hfin := blk_set (blk_set (blk_drewN LL.out nq) 0 (.int .i64 (min la qa))) 1 (.int .i64 (min lb qb))
            rw [← EQ.out.1, ← EQ.out.2.1, ← EQ.out.2.2.2.1, ← EQ.out.2.2.2.2] at hfin
            rw [EQ.out.1, EQ.out.2.1, EQ.out.2.2.2.1, EQ.out.2.2.2.2] at hfin
            show _ = some (Obj.cells #[.int .i64 (min (lowK (rcorn o a b 0) 0).1 (rcorn o a b 0 0).1), .int .i64 (min (lowK (rcorn o a b 0) 0).2.1 (rcorn o a b 0 0).2)] _ _)
            rw [EQ.out.1, EQ.out.2.1, EQ.out.2.2.2.1, EQ.out.2.2.2.2]
            exact hfin
          case measure => simp [intOf]
        · have u0 := blk_cell cO 1
          have x0 := blk_cell c1 0
          have x1 := blk_cell c1 1
          have hr : ∀ W, Calls Tryd.prog 50 #[.int .i64 o, .int .i64 (a + 1), .int .i64 (b)] W fun e w' => e = .returned (.tuple #[.int .i64 (rcorn o a b 0 1).1, .int .i64 (rcorn o a b 0 1).2]) ∧ ∃ n, w' = W.drewN n := fun W => HR.out (a + 1) (b) W (by omega) (by omega) (by omega) (by omega)
          generalize hla : (lowK (rcorn o a b 0) 1).1 = la at *
          generalize hlb : (lowK (rcorn o a b 0) 1).2.1 = lb at *
          generalize hlc : (lowK (rcorn o a b 0) 1).2.2 = lc at *
          generalize hqa : (rcorn o a b 0 1).1 = qa at *
          generalize hqb : (rcorn o a b 0 1).2 = qb at *
          have EQ := Aside0.mk (And.intro hla (And.intro hlb (And.intro hlc (And.intro hqa hqb))))
          clear hla hlb hlc hqa hqb
          go_wp2_with fail
          go_quiet (first | (go_at_call 50; exact Calls.quiet_of (hr _)))
          go_wp2
          go_roundw
          case rel =>
            refine ⟨2, by omega, rfl, by rw [← EQ.out.2.2.1, ← EQ.out.2.2.2.1, ← EQ.out.2.2.2.2]; rfl, grownBy_set (grownBy_set (grownBy_drewN GG.out _) _ _) _ _, ?_⟩
            have hfin := blk_set (blk_set (blk_drewN LL.out nq) 0 (.int .i64 (min la qa))) 1 (.int .i64 (min lb qb))
            rw [← EQ.out.1, ← EQ.out.2.1, ← EQ.out.2.2.2.1, ← EQ.out.2.2.2.2] at hfin
            rw [EQ.out.1, EQ.out.2.1, EQ.out.2.2.2.1, EQ.out.2.2.2.2] at hfin
            show _ = some (Obj.cells #[.int .i64 (min (lowK (rcorn o a b 0) 1).1 (rcorn o a b 0 1).1), .int .i64 (min (lowK (rcorn o a b 0) 1).2.1 (rcorn o a b 0 1).2)] _ _)
            rw [EQ.out.1, EQ.out.2.1, EQ.out.2.2.2.1, EQ.out.2.2.2.2]
            exact hfin
          case measure => simp [intOf]
        · have u0 := blk_cell cO 2
          have x0 := blk_cell c2 0
          have x1 := blk_cell c2 1
          have hr : ∀ W, Calls Tryd.prog 50 #[.int .i64 o, .int .i64 (a), .int .i64 (b + 1)] W fun e w' => e = .returned (.tuple #[.int .i64 (rcorn o a b 0 2).1, .int .i64 (rcorn o a b 0 2).2]) ∧ ∃ n, w' = W.drewN n := fun W => HR.out (a) (b + 1) W (by omega) (by omega) (by omega) (by omega)
          generalize hla : (lowK (rcorn o a b 0) 2).1 = la at *
          generalize hlb : (lowK (rcorn o a b 0) 2).2.1 = lb at *
          generalize hlc : (lowK (rcorn o a b 0) 2).2.2 = lc at *
          generalize hqa : (rcorn o a b 0 2).1 = qa at *
          generalize hqb : (rcorn o a b 0 2).2 = qb at *
          have EQ := Aside0.mk (And.intro hla (And.intro hlb (And.intro hlc (And.intro hqa hqb))))
          clear hla hlb hlc hqa hqb
          go_wp2_with fail
          go_quiet (first | (go_at_call 50; exact Calls.quiet_of (hr _)))
          go_wp2
          go_roundw
          case rel =>
            refine ⟨3, by omega, rfl, by rw [← EQ.out.2.2.1, ← EQ.out.2.2.2.1, ← EQ.out.2.2.2.2]; rfl, grownBy_set (grownBy_set (grownBy_drewN GG.out _) _ _) _ _, ?_⟩
            have hfin := blk_set (blk_set (blk_drewN LL.out nq) 0 (.int .i64 (min la qa))) 1 (.int .i64 (min lb qb))
            rw [← EQ.out.1, ← EQ.out.2.1, ← EQ.out.2.2.2.1, ← EQ.out.2.2.2.2] at hfin
            rw [EQ.out.1, EQ.out.2.1, EQ.out.2.2.2.1, EQ.out.2.2.2.2] at hfin
            show _ = some (Obj.cells #[.int .i64 (min (lowK (rcorn o a b 0) 2).1 (rcorn o a b 0 2).1), .int .i64 (min (lowK (rcorn o a b 0) 2).2.1 (rcorn o a b 0 2).2)] _ _)
            rw [EQ.out.1, EQ.out.2.1, EQ.out.2.2.2.1, EQ.out.2.2.2.2]
            exact hfin
          case measure => simp [intOf]
      · obtain rfl : k = 3 := by omega
        have hb0 : (lowK (rcorn o a b 0) 3).1 ≤ (rcorn o a b 0 2).1 := Int.min_le_right _ _
        have hb1 : (lowK (rcorn o a b 0) 3).2.1 ≤ (rcorn o a b 0 2).2 := Int.min_le_right _ _
        obtain ⟨⟨_, r1⟩, ⟨_, r2⟩⟩ := HQ.out 2
        have t1 := Int.le_trans hb0 r1
        have t2 := Int.le_trans hb1 r2
        generalize hla : (lowK (rcorn o a b 0) 3).1 = la at *
        generalize hlb : (lowK (rcorn o a b 0) 3).2.1 = lb at *
        generalize hlc : (lowK (rcorn o a b 0) 3).2.2 = lc at *
        have EQ := Aside0.mk (And.intro hla (And.intro hlb hlc))
        clear hla hlb hlc
        have v1 : IntKind.i64.wrap (la + lb) = la + lb := by rw [IntKind.wrap_i64]; omega
        have v2 : IntKind.i64.wrap (3 * (la + lb)) = 3 * (la + lb) := by rw [IntKind.wrap_i64]; omega
        have v3 : IntKind.i64.wrap (lc - 3 * (la + lb)) = lc - 3 * (la + lb) := by rw [IntKind.wrap_i64]; omega
        have rB := (GG.out.block (w.heap.size + 1) (blk_lt BR.out) (by intro e; have := Option.some.inj e; omega)).trans BR.out
        have p0 := blk_cell rB 0
        have p1 := blk_cell rB 1
        have p2 := blk_cell rB 2
        have pf := blk_frozen rB
        have RB := Aside0.mk rB
        clear rB
        go_wp2_with fail
        go_quiet (fail)
        go_wp2
        all_goals go_region
        all_goals go_wp2
        all_goals (first
          | (exfalso
             have e1 := EQ.out.1
             have e2 := EQ.out.2.1
             have e3 := EQ.out.2.2
             omega)
          | (have hr := blk_set (blk_set (blk_set (blk_drewN RB.out (nq + 1)) 0 (.int .i64 la)) 1 (.int .i64 lb)) 2 (.int .i64 1)
             refine bodyPost_ret (results_c rfl _ _ (w.heap.size + 1) 23 #[.int .i64 la, .int .i64 lb, .int .i64 1] (0, 0) _ rfl hr Tryd.underlying23 rfl (by kernel_rfl)) rfl ⟨(by rw [EQ.out.1, EQ.out.2.1]), ?_⟩
             refine Below.setCell (p := ⟨w.heap.size + 1, 2, none⟩) (Below.setCell (p := ⟨w.heap.size + 1, 1, none⟩) (Below.setCell (p := ⟨w.heap.size + 1, 0, none⟩) (pw_below_drewN ?_ _) (Nat.le_succ _) _) (Nat.le_succ _) _) (Nat.le_succ _) _
             exact pw_below_grown HBW.out _ HBW.out.size GG.out (fun k hk => by have := Option.some.inj hk; omega))
          | (have hr := blk_set (blk_set (blk_set (blk_drewN RB.out (nq + 1)) 0 (.int .i64 la)) 1 (.int .i64 lb)) 2 (.int .i64 0)
             refine bodyPost_ret (results_c rfl _ _ (w.heap.size + 1) 23 #[.int .i64 la, .int .i64 lb, .int .i64 0] (0, 0) _ rfl hr Tryd.underlying23 rfl (by kernel_rfl)) rfl ⟨(by rw [EQ.out.1, EQ.out.2.1]), ?_⟩
             refine Below.setCell (p := ⟨w.heap.size + 1, 2, none⟩) (Below.setCell (p := ⟨w.heap.size + 1, 1, none⟩) (Below.setCell (p := ⟨w.heap.size + 1, 0, none⟩) (pw_below_drewN ?_ _) (Nat.le_succ _) _) (Nat.le_succ _) _) (Nat.le_succ _) _
             exact pw_below_grown HBW.out _ HBW.out.size GG.out (fun k hk => by have := Option.some.inj hk; omega)))
  · go_enter Tryd.func37, Tryd.ntmps37
    go_wp2
    obtain ⟨W, hW⟩ : ∃ W, W = ((((((((w.alloc (.cells #[.int .i64 a, .int .i64 b, .int .i64 1] 23)).alloc (.cells #[.int .i64 0, .int .i64 0, .int .i64 0] 23)).alloc (.cells #[.int .i64 1152921504606846976, .int .i64 1152921504606846976] 2)).alloc (.cells #[.int .i64 a, .int .i64 b, .int .i64 1] 23)).alloc (.cells #[.int .i64 (a + 1), .int .i64 (b)] 2)).alloc (.cells #[.int .i64 (a), .int .i64 (b + 1)] 2)).alloc (.cells #[.int .i64 (a + 1), .int .i64 (b + 1)] 2)).alloc (.cells #[.slice (some ⟨w.heap.size + 1 + 1 + 1 + 1, 0, none⟩) 2 2, .slice (some ⟨w.heap.size + 1 + 1 + 1 + 1 + 1, 0, none⟩) 2 2, .slice (some ⟨w.heap.size + 1 + 1 + 1 + 1 + 1 + 1, 0, none⟩) 2 2] 89)) := ⟨_, rfl⟩
    have hBW : Below w.heap.size w W := by rw [hW]; exact (by with_reducible repeat (first | apply below_alloc | apply pw_below_drewN | apply below_drew | refine bset ?_ _ _ (by omega) _ | exact Below.refl _ _))
    have hzW : W.heap.size = w.heap.size + 1 + 1 + 1 + 1 + 1 + 1 + 1 + 1 := by rw [hW]; simp
    have hbR : W.heap[w.heap.size + 1]? = some (.cells #[.int .i64 0, .int .i64 0, .int .i64 0] 23 (0, 0)) := by
      rw [hW]
      exact blk_alloc (blk_alloc (blk_alloc (blk_alloc (blk_alloc (blk_alloc (blk_at _ (by simp)) _) _) _) _) _) _
    have hbL : W.heap[w.heap.size + 1 + 1]? = some (.cells #[.int .i64 1152921504606846976, .int .i64 1152921504606846976] 2 (0, 0)) := by
      rw [hW]
      exact blk_alloc (blk_alloc (blk_alloc (blk_alloc (blk_alloc (blk_at _ (by simp)) _) _) _) _) _
    have hbO : W.heap[w.heap.size + 1 + 1 + 1 + 1 + 1 + 1 + 1]? = some (.cells #[.slice (some ⟨w.heap.size + 1 + 1 + 1 + 1, 0, none⟩) 2 2, .slice (some ⟨w.heap.size + 1 + 1 + 1 + 1 + 1, 0, none⟩) 2 2, .slice (some ⟨w.heap.size + 1 + 1 + 1 + 1 + 1 + 1, 0, none⟩) 2 2] 89 (0, 0)) := by
      rw [hW]
      exact blk_at _ (by simp)
    have hb0 : W.heap[w.heap.size + 1 + 1 + 1 + 1]? = some (.cells #[.int .i64 (a + 1), .int .i64 (b)] 2 (0, 0)) := by
      rw [hW]
      exact blk_alloc (blk_alloc (blk_alloc (blk_at _ (by simp)) _) _) _
    have hb1 : W.heap[w.heap.size + 1 + 1 + 1 + 1 + 1]? = some (.cells #[.int .i64 (a), .int .i64 (b + 1)] 2 (0, 0)) := by
      rw [hW]
      exact blk_alloc (blk_alloc (blk_at _ (by simp)) _) _
    have hb2 : W.heap[w.heap.size + 1 + 1 + 1 + 1 + 1 + 1]? = some (.cells #[.int .i64 (a + 1), .int .i64 (b + 1)] 2 (0, 0)) := by
      rw [hW]
      exact blk_alloc (blk_at _ (by simp)) _
    rw [← hW]
    have BR := Aside0.mk hbR
    have BL := Aside0.mk hbL
    have BO := Aside0.mk hbO
    have B0 := Aside0.mk hb0
    have B1 := Aside0.mk hb1
    have B2 := Aside0.mk hb2
    have HBW := Aside0.mk hBW
    clear hW hBW hbR hbL hbO hb0 hb1 hb2
    go_loopw [10, 34] (fun sm i wr => ∃ k : Nat, k ≤ 3 ∧ i = .int .i64 k ∧ sm = .int .i64 (lowK (rcorn o a b 1) k).2.2 ∧ W.grownBy wr (some (w.heap.size + 1 + 1)) ∧ wr.heap[w.heap.size + 1 + 1]? = some (.cells #[.int .i64 (lowK (rcorn o a b 1) k).1, .int .i64 (lowK (rcorn o a b 1) k).2.1] 2 (0, 0))) (fun _ i _ => 3 - (intOf i).toNat)
    case atStart => exact ⟨0, by omega, rfl, rfl, ⟨rfl, rfl, rfl, Nat.le_refl _, fun _ _ _ => rfl⟩, BL.out⟩
    case round =>
      obtain ⟨k, hk, rfl, rfl, hG, hL⟩ := hrel
      have hbk := fun i hi hne => hG.block i hi hne
      have cO := (hG.block (w.heap.size + 1 + 1 + 1 + 1 + 1 + 1 + 1) (blk_lt BO.out) (by intro e; have := Option.some.inj e; omega)).trans BO.out
      have c0 := (hG.block (w.heap.size + 1 + 1 + 1 + 1) (blk_lt B0.out) (by intro e; have := Option.some.inj e; omega)).trans B0.out
      have c1 := (hG.block (w.heap.size + 1 + 1 + 1 + 1 + 1) (blk_lt B1.out) (by intro e; have := Option.some.inj e; omega)).trans B1.out
      have c2 := (hG.block (w.heap.size + 1 + 1 + 1 + 1 + 1 + 1) (blk_lt B2.out) (by intro e; have := Option.some.inj e; omega)).trans B2.out
      have l0 := blk_cell hL 0
      have l1 := blk_cell hL 1
      have lf := blk_frozen hL
      have GG := Aside0.mk hG
      have LL := Aside0.mk hL
      obtain ⟨⟨q1, q2⟩, ⟨q3, q4⟩⟩ := HQ.out k
      obtain ⟨⟨s1, s2⟩, ⟨s3, s4⟩, ⟨s5, s6⟩⟩ := HL.out k hk
      clear hbk hG hL
      by_cases hlt : k < 3
      · have hk3 : k = 0 ∨ k = 1 ∨ k = 2 := by omega
        rcases hk3 with rfl | rfl | rfl
        · have u0 := blk_cell cO 0
          have x0 := blk_cell c0 0
          have x1 := blk_cell c0 1
          have hr : ∀ W, Calls Tryd.prog 50 #[.int .i64 o, .int .i64 (a + 1), .int .i64 (b)] W fun e w' => e = .returned (.tuple #[.int .i64 (rcorn o a b 1 0).1, .int .i64 (rcorn o a b 1 0).2]) ∧ ∃ n, w' = W.drewN n := fun W => HR.out (a + 1) (b) W (by omega) (by omega) (by omega) (by omega)
          generalize hla : (lowK (rcorn o a b 1) 0).1 = la at *
          generalize hlb : (lowK (rcorn o a b 1) 0).2.1 = lb at *
          generalize hlc : (lowK (rcorn o a b 1) 0).2.2 = lc at *
          generalize hqa : (rcorn o a b 1 0).1 = qa at *
          generalize hqb : (rcorn o a b 1 0).2 = qb at *
          have EQ := Aside0.mk (And.intro hla (And.intro hlb (And.intro hlc (And.intro hqa hqb))))
          clear hla hlb hlc hqa hqb
          go_wp2_with fail
          go_quiet (first | (go_at_call 50; exact Calls.quiet_of (hr _)))
          go_wp2
          go_roundw
          case rel =>
            refine ⟨1, by omega, rfl, by rw [← EQ.out.2.2.1, ← EQ.out.2.2.2.1, ← EQ.out.2.2.2.2]; rfl, grownBy_set (grownBy_set (grownBy_drewN GG.out _) _ _) _ _, ?_⟩
            have hfin := blk_set (blk_set (blk_drewN LL.out nq) 0 (.int .i64 (min la qa))) 1 (.int .i64 (min lb qb))
            rw [← EQ.out.1, ← EQ.out.2.1, ← EQ.out.2.2.2.1, ← EQ.out.2.2.2.2] at hfin
            rw [EQ.out.1, EQ.out.2.1, EQ.out.2.2.2.1, EQ.out.2.2.2.2] at hfin
            show _ = some (Obj.cells #[.int .i64 (min (lowK (rcorn o a b 1) 0).1 (rcorn o a b 1 0).1), .int .i64 (min (lowK (rcorn o a b 1) 0).2.1 (rcorn o a b 1 0).2)] _ _)
            rw [EQ.out.1, EQ.out.2.1, EQ.out.2.2.2.1, EQ.out.2.2.2.2]
            exact hfin
          case measure => simp [intOf]
        · have u0 := blk_cell cO 1
          have x0 := blk_cell c1 0
          have x1 := blk_cell c1 1
          have hr : ∀ W, Calls Tryd.prog 50 #[.int .i64 o, .int .i64 (a), .int .i64 (b + 1)] W fun e w' => e = .returned (.tuple #[.int .i64 (rcorn o a b 1 1).1, .int .i64 (rcorn o a b 1 1).2]) ∧ ∃ n, w' = W.drewN n := fun W => HR.out (a) (b + 1) W (by omega) (by omega) (by omega) (by omega)
          generalize hla : (lowK (rcorn o a b 1) 1).1 = la at *
          generalize hlb : (lowK (rcorn o a b 1) 1).2.1 = lb at *
          generalize hlc : (lowK (rcorn o a b 1) 1).2.2 = lc at *
          generalize hqa : (rcorn o a b 1 1).1 = qa at *
          generalize hqb : (rcorn o a b 1 1).2 = qb at *
          have EQ := Aside0.mk (And.intro hla (And.intro hlb (And.intro hlc (And.intro hqa hqb))))
          clear hla hlb hlc hqa hqb
          go_wp2_with fail
          go_quiet (first | (go_at_call 50; exact Calls.quiet_of (hr _)))
          go_wp2
          go_roundw
          case rel =>
            refine ⟨2, by omega, rfl, by rw [← EQ.out.2.2.1, ← EQ.out.2.2.2.1, ← EQ.out.2.2.2.2]; rfl, grownBy_set (grownBy_set (grownBy_drewN GG.out _) _ _) _ _, ?_⟩
            have hfin := blk_set (blk_set (blk_drewN LL.out nq) 0 (.int .i64 (min la qa))) 1 (.int .i64 (min lb qb))
            rw [← EQ.out.1, ← EQ.out.2.1, ← EQ.out.2.2.2.1, ← EQ.out.2.2.2.2] at hfin
            rw [EQ.out.1, EQ.out.2.1, EQ.out.2.2.2.1, EQ.out.2.2.2.2] at hfin
            show _ = some (Obj.cells #[.int .i64 (min (lowK (rcorn o a b 1) 1).1 (rcorn o a b 1 1).1), .int .i64 (min (lowK (rcorn o a b 1) 1).2.1 (rcorn o a b 1 1).2)] _ _)
            rw [EQ.out.1, EQ.out.2.1, EQ.out.2.2.2.1, EQ.out.2.2.2.2]
            exact hfin
          case measure => simp [intOf]
        · have u0 := blk_cell cO 2
          have x0 := blk_cell c2 0
          have x1 := blk_cell c2 1
          have hr : ∀ W, Calls Tryd.prog 50 #[.int .i64 o, .int .i64 (a + 1), .int .i64 (b + 1)] W fun e w' => e = .returned (.tuple #[.int .i64 (rcorn o a b 1 2).1, .int .i64 (rcorn o a b 1 2).2]) ∧ ∃ n, w' = W.drewN n := fun W => HR.out (a + 1) (b + 1) W (by omega) (by omega) (by omega) (by omega)
          generalize hla : (lowK (rcorn o a b 1) 2).1 = la at *
          generalize hlb : (lowK (rcorn o a b 1) 2).2.1 = lb at *
          generalize hlc : (lowK (rcorn o a b 1) 2).2.2 = lc at *
          generalize hqa : (rcorn o a b 1 2).1 = qa at *
          generalize hqb : (rcorn o a b 1 2).2 = qb at *
          have EQ := Aside0.mk (And.intro hla (And.intro hlb (And.intro hlc (And.intro hqa hqb))))
          clear hla hlb hlc hqa hqb
          go_wp2_with fail
          go_quiet (first | (go_at_call 50; exact Calls.quiet_of (hr _)))
          go_wp2
          go_roundw
          case rel =>
            refine ⟨3, by omega, rfl, by rw [← EQ.out.2.2.1, ← EQ.out.2.2.2.1, ← EQ.out.2.2.2.2]; rfl, grownBy_set (grownBy_set (grownBy_drewN GG.out _) _ _) _ _, ?_⟩
            have hfin := blk_set (blk_set (blk_drewN LL.out nq) 0 (.int .i64 (min la qa))) 1 (.int .i64 (min lb qb))
            rw [← EQ.out.1, ← EQ.out.2.1, ← EQ.out.2.2.2.1, ← EQ.out.2.2.2.2] at hfin
            rw [EQ.out.1, EQ.out.2.1, EQ.out.2.2.2.1, EQ.out.2.2.2.2] at hfin
            show _ = some (Obj.cells #[.int .i64 (min (lowK (rcorn o a b 1) 2).1 (rcorn o a b 1 2).1), .int .i64 (min (lowK (rcorn o a b 1) 2).2.1 (rcorn o a b 1 2).2)] _ _)
            rw [EQ.out.1, EQ.out.2.1, EQ.out.2.2.2.1, EQ.out.2.2.2.2]
            exact hfin
          case measure => simp [intOf]
      · obtain rfl : k = 3 := by omega
        have hb0 : (lowK (rcorn o a b 1) 3).1 ≤ (rcorn o a b 1 2).1 := Int.min_le_right _ _
        have hb1 : (lowK (rcorn o a b 1) 3).2.1 ≤ (rcorn o a b 1 2).2 := Int.min_le_right _ _
        obtain ⟨⟨_, r1⟩, ⟨_, r2⟩⟩ := HQ.out 2
        have t1 := Int.le_trans hb0 r1
        have t2 := Int.le_trans hb1 r2
        generalize hla : (lowK (rcorn o a b 1) 3).1 = la at *
        generalize hlb : (lowK (rcorn o a b 1) 3).2.1 = lb at *
        generalize hlc : (lowK (rcorn o a b 1) 3).2.2 = lc at *
        have EQ := Aside0.mk (And.intro hla (And.intro hlb hlc))
        clear hla hlb hlc
        have v1 : IntKind.i64.wrap (la + lb) = la + lb := by rw [IntKind.wrap_i64]; omega
        have v2 : IntKind.i64.wrap (3 * (la + lb)) = 3 * (la + lb) := by rw [IntKind.wrap_i64]; omega
        have v3 : IntKind.i64.wrap (lc - 3 * (la + lb)) = lc - 3 * (la + lb) := by rw [IntKind.wrap_i64]; omega
        have rB := (GG.out.block (w.heap.size + 1) (blk_lt BR.out) (by intro e; have := Option.some.inj e; omega)).trans BR.out
        have p0 := blk_cell rB 0
        have p1 := blk_cell rB 1
        have p2 := blk_cell rB 2
        have pf := blk_frozen rB
        have RB := Aside0.mk rB
        clear rB
        go_wp2_with fail
        go_quiet (fail)
        go_wp2
        all_goals go_region
        all_goals go_wp2
        all_goals (first
          | (exfalso
             have e1 := EQ.out.1
             have e2 := EQ.out.2.1
             have e3 := EQ.out.2.2
             omega)
          | (have hr := blk_set (blk_set (blk_set (blk_drewN RB.out (nq + 1)) 0 (.int .i64 la)) 1 (.int .i64 lb)) 2 (.int .i64 1)
             refine bodyPost_ret (results_c rfl _ _ (w.heap.size + 1) 23 #[.int .i64 la, .int .i64 lb, .int .i64 1] (0, 0) _ rfl hr Tryd.underlying23 rfl (by kernel_rfl)) rfl ⟨(by rw [EQ.out.1, EQ.out.2.1]), ?_⟩
             refine Below.setCell (p := ⟨w.heap.size + 1, 2, none⟩) (Below.setCell (p := ⟨w.heap.size + 1, 1, none⟩) (Below.setCell (p := ⟨w.heap.size + 1, 0, none⟩) (pw_below_drewN ?_ _) (Nat.le_succ _) _) (Nat.le_succ _) _) (Nat.le_succ _) _
             exact pw_below_grown HBW.out _ HBW.out.size GG.out (fun k hk => by have := Option.some.inj hk; omega))
          | (have hr := blk_set (blk_set (blk_set (blk_drewN RB.out (nq + 1)) 0 (.int .i64 la)) 1 (.int .i64 lb)) 2 (.int .i64 0)
             refine bodyPost_ret (results_c rfl _ _ (w.heap.size + 1) 23 #[.int .i64 la, .int .i64 lb, .int .i64 0] (0, 0) _ rfl hr Tryd.underlying23 rfl (by kernel_rfl)) rfl ⟨(by rw [EQ.out.1, EQ.out.2.1]), ?_⟩
             refine Below.setCell (p := ⟨w.heap.size + 1, 2, none⟩) (Below.setCell (p := ⟨w.heap.size + 1, 1, none⟩) (Below.setCell (p := ⟨w.heap.size + 1, 0, none⟩) (pw_below_drewN ?_ _) (Nat.le_succ _) _) (Nat.le_succ _) _) (Nat.le_succ _) _
             exact pw_below_grown HBW.out _ HBW.out.size GG.out (fun k hk => by have := Option.some.inj hk; omega)))
end Go.Proofs.YtdgjfkpjgllffaaDoor
