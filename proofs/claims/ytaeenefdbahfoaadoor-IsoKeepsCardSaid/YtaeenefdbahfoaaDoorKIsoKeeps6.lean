/- Parts of the proof (IsoKeeps), merged out of our texts by wip/tools/pack.py: HIso0. -/
import Derived.Test.YtaeenefdbahfoaaDoorKIsoKeeps1
import Derived.Test.YtaeenefdbahfoaaDoorKIsoKeeps3
import Derived.Test.YtaeenefdbahfoaaDoorKIsoKeeps2
import Derived.Test.YtaeenefdbahfoaaDoorKIsoKeeps5
namespace Go.Proofs.YtaeenefdbahfoaaDoor.H
open Go.RowKit Go.Proofs.YtaeenefdbahfoaaDoorW.PrintWords Go.Proofs.YtaeenefdbahfoaaDoorW.PrintLast Go.Proofs.YtaeenefdbahfoaaDoorW.PrintMore
attribute [local go_sem] max2_int min2_int max_two min_two max_three min_three max_four min_four
set_option linter.unusedVariables false
set_option linter.unusedSimpArgs false
mutual
def iso_hexes.l0 : Nat → Int → Int → Int → Int → Int → Int → Option ((List (S65)) × Int × Bool)
 | 0, _, _, _, _, _, _ => none
 | k + 1, x8, x114000, x114001, x114002, x114003, x114004 => if x8 < 12 then (iso_hexes.l1 k x8 x8 0 x114000 x114001 x114002 x114003 x114004) else (some (([] : List (S65)), 0, false))
def iso_hexes.l1 : Nat → Int → Int → Int → Int → Int → Int → Int → Int → Option ((List (S65)) × Int × Bool)
 | 0, _, _, _, _, _, _, _, _ => none
 | k + 1, x4, x8, x11, x114000, x114001, x114002, x114003, x114004 => if x11 < 64 then ((some (([false, true] : List Bool) : List Bool)).bind fun y115 => (iso_hexes.l2 k x4 x11 x8 x11 y115 (y115.length : Int) 0 x114000 x114001 x114002 x114003 x114004)) else (iso_hexes.l0 k (wrap64 (x8 + 1)) x114000 x114001 x114002 x114003 x114004)
def iso_hexes.l2 : Nat → Int → Int → Int → Int → List Bool → Int → Int → Int → Int → Int → Int → Int → Option ((List (S65)) × Int × Bool)
 | 0, _, _, _, _, _, _, _, _, _, _, _, _ => none
 | k + 1, x4, x5, x8, x11, x14, x15, x16, x114000, x114001, x114002, x114003, x114004 => if x16 < x15 then (if 0 ≤ x16 then (if x16 < (x14.length : Int) then ((XNext.f x114000 x114001 x114002 x114003 x114004 0 (rdOf false x14 x16) x5).bind fun t119 => ((XBrought.f x4 x5).bind fun t120 => ((XNext.f x114000 x114001 x114002 x114003 x114004 0 (rdOf false x14 x16) t120).bind fun t121 => (if (t119 != t121) = true then ((XPattern.f x5 (rdOf false x14 x16)).bind fun t122 => (some (t122, x4, true))) else (iso_hexes.l2 k x4 x5 x8 x11 x14 x15 (wrap64 (x16 + 1)) x114000 x114001 x114002 x114003 x114004))))) else (none)) else (none)) else (iso_hexes.l1 k x4 x8 (wrap64 (x11 + 1)) x114000 x114001 x114002 x114003 x114004)
end
def iso_hexes.f (k : Nat) (a0_0 : Int) (a0_1 : Int) (a0_2 : Int) (a0_3 : Int) (a0_4 : Int) : Option ((List (S65)) × Int × Bool) := iso_hexes.l0 k 0 a0_0 a0_1 a0_2 a0_3 a0_4
def iso_hexes.T10 : Bool × List (List Nat × List Nat) := (true, [([], []), ([], []), ([], []), ([0, 1, 2], [0, 1, 2]), ([], []), ([], []), ([], []), ([], []), ([6, 7, 3], [6, 7]), ([4, 5, 8, 8], [4, 5, 8]), ([3, 9], [3, 9])])
def iso_hexes.B10 : List Nat := [0, 0, 0, 7, 0, 0, 0, 0, 207, 511, 1023]
theorem iso_hexes.tab10 : rtab .any (opsOf Tryd.f54 10) = iso_hexes.T10 := by kernel_rfl
theorem iso_hexes.bits10 : waitsOk iso_hexes.T10.2 iso_hexes.B10 = true := by kernel_rfl
set_option maxHeartbeats 8000000 in
set_option maxRecDepth 100000 in
theorem iso_hexes.calls (k : Nat) (a0_0 : Int) (a0_1 : Int) (a0_2 : Int) (a0_3 : Int) (a0_4 : Int) (r1 : List (S65)) (r2 : Int) (r3 : Bool) (w : World) (hGSix : Six w) (h : iso_hexes.f k a0_0 a0_1 a0_2 a0_3 a0_4 = some (r1, r2, r3)) :
  Calls Tryd.prog 54 #[.agg #[.int .i64 a0_0, .int .u64 a0_1, .int .u64 a0_2, .int .u64 a0_3, .int .u64 a0_4]] w fun e w' => ∃ v0_ : Value, e = .returned (.tuple #[.agg #[v0_, .int .i64 r2], .bool r3]) ∧ Kd.R k65 65 w' w.heap.size (fun _ => True) v0_ r1 ∧ Below w.heap.size w w' := by
 have hu29 := Tryd.underlying29
 have hu37 := Tryd.underlying37
 have HB := Aside0.mk (Below.refl w.heap.size w)
 have HGSix := Aside0.mk hGSix
 clear hGSix
 have H : (iso_hexes.l0 k 0 a0_0 a0_1 a0_2 a0_3 a0_4) = some (r1, r2, r3) := h
 clear h
 have H' := Aside0.mk H
 clear H
 go_enter Tryd.func54, Tryd.ntmps54
 go_wp2_with (first | ((with_reducible refine gate_dst (N := 1) rfl ?_); refine bx_ 1 #[.int .i64 a0_0, .int .u64 a0_1, .int .u64 a0_2, .int .u64 a0_3, .int .u64 a0_4] 29 ?_; intro gb113 hg w2 hbox hb; have BK113 := Aside0.mk (hbox); have GW113 := Aside0.mk ((by rw [hg]; exact (below_size hb_) : w.heap.size ≤ gb113)); have GE113 := GW113; replace HB := Aside0.mk (below_step hb_ hb); clear hb hbox hg) | ((with_reducible refine gate_dst (N := 2) rfl ?_); refine bx_ 2 #[.slice none 0 0, .int .i64 0] 37 ?_; intro gb114 hg w3 hbox hb; have BK114 := Aside0.mk (hbox); have GW114 := Aside0.mk ((by rw [hg]; exact (below_size (hg_ GE113.out)) : w.heap.size ≤ gb114)); have GE114 := GW114; have NB113_114 := Aside0.mk ((by rw [hg]; exact ne1_ BK113.out : gb113 ≠ gb114)); have NB114_113 := Aside0.mk ((by rw [hg]; exact ne2_ BK113.out : gb114 ≠ gb113)); replace BK113 := bb_ BK113.out hb; replace HB := Aside0.mk (below_step (hg_ GE113.out) hb); clear hb hbox hg))
 go_loopg [8] k (fun kq v8 w' => ∃ (x8_1 : Int) (x115001_1 : Int), v8 = .int .i64 x8_1 ∧ Aside0 (iso_hexes.l0 kq x8_1 a0_0 a0_1 a0_2 a0_3 a0_4 = some (r1, r2, r3)) ∧ Aside0 (kq ≤ k) ∧ Aside0 (w'.heap[gb113]? = some (.cells #[.int .i64 a0_0, .int .u64 a0_1, .int .u64 a0_2, .int .u64 a0_3, .int .u64 a0_4] 29 (0, 0))) ∧ Aside0 (w'.heap[gb114]? = some (.cells #[(.slice none 0 0), .int .i64 x115001_1] 37 (0, 0))) ∧ Aside0 (Below w.heap.size w w'))
 case atStart => exact ⟨(0), (0), rs_, H', ⟨Nat.le_refl _⟩, ⟨bk_ BK113.out⟩, ⟨bk_ BK114.out⟩, ⟨by repeat (first | (with_reducible first | exact HB.out | apply ba_ | apply bn_ | apply bd_ | refine below_set ?_ GE113.out | refine below_set ?_ GE114.out) | exact HB.out)⟩⟩
 case round =>
  clear H'
  try clear p2
  obtain ⟨x8_1, x115001_1, rfl, HA, HK1, BK113, BK114, HB⟩ := hrel
  cases gk with
  | zero => exact absurd HA.out (by simp [iso_hexes.l0])
  | succ k1 =>
   have H := HA.out
   clear HA
   simp only [iso_hexes.l0] at H
   by_cases c4 : x8_1 < 12
   rotate_left
   ·
    rw [if_neg c4] at H
    have c4b0 : decide (x8_1 < 12) = false := decide_eq_false c4
    clear c4
    simp only [Option.some.injEq, Prod.mk.injEq] at H
    obtain ⟨rfl, rfl, rfl⟩ := H
    have hnb29 := NB114_113.out
    have hnc29 := NB113_114.out
    obtain ⟨hcz30_0, hcz30_1⟩ := cz2_ BK114.out
    obtain ⟨hfz30_0, hfz30_1⟩ := fz2_ BK114.out
    go_wp2
    refine bodyPost_ret (results_ct rfl _ _ gb114 37 #[.slice none 0 0, .int .i64 0] (0, 0) _ rfl (by (with_reducible repeat (first | apply bN_ | apply bD_ | apply bA_)); refine blk_put (cs := #[.slice none 0 0, .int .i64 x115001_1]) ?_ 1 _ rfl; (with_reducible repeat (first | apply bN_ | apply bD_ | apply bA_)); refine blk_put (cs := #[.slice none 0 0, .int .i64 x115001_1]) ?_ 0 _ rfl; (with_reducible repeat (first | apply bN_ | apply bD_ | apply bA_)); exact BK114.out) Tryd.underlying37 rfl (by kernel_rfl)) rfl ?_
    exact ⟨_, by first | rfl | (simp [errW_none, errW_some] <;> rfl) | (simp [*, errW_none, errW_some] <;> rfl), by first | exact Kd.R_nil _ _ _ _ _ | exact Kd.N_nil _ _ _ _ _ | exact Kd.V_nil _ _ _ _ _ | exact Kd.Q_nil _ _ _ _ _ | exact Kd.S_nil _ _ _ _ _, by repeat (first | (with_reducible first | exact HB.out | apply ba_ | apply bn_ | apply bd_ | refine below_set ?_ GE113.out | refine below_set ?_ GE114.out) | exact HB.out)⟩
   rw [if_pos c4] at H
   have c4b0 : decide (x8_1 < 12) = true := decide_eq_true c4
   clear c4
   have H' := Aside0.mk H
   clear H
   go_wp2
   go_loopg [11] k1 (fun kq v11 w' => ∃ (x11_2 : Int) (x115001_2 : Int), v11 = .int .i64 x11_2 ∧ Aside0 (iso_hexes.l1 kq x8_1 x8_1 x11_2 a0_0 a0_1 a0_2 a0_3 a0_4 = some (r1, r2, r3)) ∧ Aside0 (kq ≤ k1) ∧ Aside0 (w'.heap[gb113]? = some (.cells #[.int .i64 a0_0, .int .u64 a0_1, .int .u64 a0_2, .int .u64 a0_3, .int .u64 a0_4] 29 (0, 0))) ∧ Aside0 (w'.heap[gb114]? = some (.cells #[(.slice none 0 0), .int .i64 x115001_2] 37 (0, 0))) ∧ Aside0 (Below w.heap.size w w'))
   case atStart => exact ⟨(0), (x115001_1), rs_, H', ⟨Nat.le_refl _⟩, ⟨bk_ BK113.out⟩, ⟨bk_ BK114.out⟩, ⟨by repeat (first | (with_reducible first | exact HB.out | apply ba_ | apply bn_ | apply bd_ | refine below_set ?_ GE113.out | refine below_set ?_ GE114.out) | exact HB.out)⟩⟩
   case round =>
    clear H'
    try clear p2
    try clear c4
    try clear c4b0
    try clear p2
    obtain ⟨x11_2, x115001_2, rfl, HA, HK2, BK113, BK114, HB⟩ := hrel
    cases gk with
    | zero => exact absurd HA.out (by simp [iso_hexes.l1])
    | succ k2 =>
     have H := HA.out
     clear HA
     simp only [iso_hexes.l1] at H
     by_cases c5 : x11_2 < 64
     rotate_left
     ·
      rw [if_neg c5] at H
      have c5b0 : decide (x11_2 < 64) = false := decide_eq_false c5
      clear c5
      have H' := Aside0.mk H
      clear H
      go_wp2
      go_roundg k2
      case measure => have := HK1.out; have := HK2.out; omega
      case rel => exact ⟨(wrap64 (x8_1 + 1)), (x115001_2), rs_, H', ⟨by have := HK1.out; have := HK2.out; omega⟩, ⟨bk_ BK113.out⟩, ⟨bk_ BK114.out⟩, ⟨by repeat (first | (with_reducible first | exact HB.out | apply ba_ | apply bn_ | apply bd_ | refine below_set ?_ GE113.out | refine below_set ?_ GE114.out) | exact HB.out)⟩⟩
     rw [if_pos c5] at H
     have c5b0 : decide (x11_2 < 64) = true := decide_eq_true c5
     clear c5
     obtain ⟨y115, hy115⟩ : ∃ y_ : List Bool, y_ = (([false, true] : List Bool)) := ⟨_, rfl⟩
     replace H : (iso_hexes.l2 k2 x8_1 x11_2 x8_1 x11_2 y115 (y115.length : Int) 0 a0_0 a0_1 a0_2 a0_3 a0_4) = some (r1, r2, r3) := by first | (rw [hy115]; with_reducible exact H) | (have H2_ := (Option.bind_some _ _).symm.trans H; rw [hy115]; with_reducible exact H2_) | (have H2_ := (Option.bind_some _ _).symm.trans H; with_reducible exact H2_) | with_reducible exact H | (rw [hy115]; exact H) | exact H
     have Ny115 := Aside0.mk hy115
     clear hy115
     have H' := Aside0.mk H
     clear H
     go_wp2_with (first | ((with_reducible refine gate_dst (N := 14) rfl ?_); refine Kd.R_lit Kd.bool _ 4 ?hg (N := 14) ?hd (xs := ([false, true] : List Bool)) (inner := [.bool false, .bool true]) (ok := fun _ => True) (okp := fun _ => True) ?hr ?hp (fun _ hk => hk) trivial (Below.refl _ _) (Nat.le_refl _) (by simp) ?_; (case hd => rfl); (case hg => rfl); (case hr => first | (go_simp; done) | (go_simp; rfl)); (case hp => exact (Reps.one (show Kd.M Kd.bool _ _ _ false [.bool false] from rfl) (Reps.one (show Kd.M Kd.bool _ _ _ true [.bool true] from rfl) (Reps.none _ _)))); intro v116 w6 ho7 hb hg_ hnew_; clear hg_ hnew_; (first | rw [← Ny115.out] at ho7 | (simp only [Int.reduceToNat] at ho7; rw [← Ny115.out] at ho7)); have HO117 := Aside0.mk (Kd.R_lower ho7 (below_size (hg2_ GE113.out GE114.out))); replace BK113 := bb_ BK113.out hb; replace BK114 := bb_ BK114.out hb; replace HB := Aside0.mk (below_step (hg2_ GE113.out GE114.out) hb); clear hb ho7; obtain ⟨Ao8, co8, eo8⟩ := Kd.R_slice HO117.out; subst eo8))
     go_loopg [16] k2 (fun kq v16 w' => ∃ (x16_3 : Int) (x115001_3 : Int), v16 = .int .i64 x16_3 ∧ Aside0 (iso_hexes.l2 kq x8_1 x11_2 x8_1 x11_2 y115 (y115.length : Int) x16_3 a0_0 a0_1 a0_2 a0_3 a0_4 = some (r1, r2, r3)) ∧ Aside0 (kq ≤ k2) ∧ Aside0 (Kd.R Kd.bool 4 w' w.heap.size (fun _ => True) (.slice Ao8 y115.length co8) y115) ∧ Aside0 (w'.heap[gb113]? = some (.cells #[.int .i64 a0_0, .int .u64 a0_1, .int .u64 a0_2, .int .u64 a0_3, .int .u64 a0_4] 29 (0, 0))) ∧ Aside0 (w'.heap[gb114]? = some (.cells #[(.slice none 0 0), .int .i64 x115001_3] 37 (0, 0))) ∧ Aside0 (Below w.heap.size w w'))
     case atStart => exact ⟨(0), (x115001_2), rs_, H', ⟨Nat.le_refl _⟩, ⟨kr_ HO117.out⟩, ⟨bk_ BK113.out⟩, ⟨bk_ BK114.out⟩, ⟨by repeat (first | (with_reducible first | exact HB.out | apply ba_ | apply bn_ | apply bd_ | refine below_set ?_ GE113.out | refine below_set ?_ GE114.out) | exact HB.out)⟩⟩
     case round =>
      clear H'
      try clear p2
      try clear c4
      try clear c4b0
      try clear c5
      try clear c5b0
      try clear p2
      obtain ⟨x16_3, x115001_3, rfl, HA, HK3, HO_14, BK113, BK114, HB⟩ := hrel
      cases gk with
      | zero => exact absurd HA.out (by simp [iso_hexes.l2])
      | succ k3 =>
       have H := HA.out
       clear HA
       simp only [iso_hexes.l2] at H
       by_cases c9 : x16_3 < (y115.length : Int)
       rotate_left
       ·
        rw [if_neg c9] at H
        have c9b0 : decide (x16_3 < (y115.length : Int)) = false := decide_eq_false c9
        clear c9
        have H' := Aside0.mk H
        clear H
        go_wp2
        go_roundg k3
        case measure => have := HK1.out; have := HK2.out; have := HK3.out; omega
        case rel => exact ⟨(wrap64 (x11_2 + 1)), (x115001_3), rs_, H', ⟨by have := HK1.out; have := HK2.out; have := HK3.out; omega⟩, ⟨bk_ BK113.out⟩, ⟨bk_ BK114.out⟩, ⟨by repeat (first | (with_reducible first | exact HB.out | apply ba_ | apply bn_ | apply bd_ | refine below_set ?_ GE113.out | refine below_set ?_ GE114.out) | exact HB.out)⟩⟩
       rw [if_pos c9] at H
       have c9b0 : decide (x16_3 < (y115.length : Int)) = true := decide_eq_true c9
       clear c9
       by_cases c10 : 0 ≤ x16_3
       rotate_left
       ·
        rw [if_neg c10] at H
        exact absurd H (by simp)
       rw [if_pos c10] at H
       have c10b0 : decide (0 ≤ x16_3) = true := decide_eq_true c10
       clear c10
       by_cases c11 : x16_3 < (y115.length : Int)
       rotate_left
       ·
        rw [if_neg c11] at H
        exact absurd H (by simp)
       rw [if_pos c11] at H
       have c11b0 : decide (x16_3 < (y115.length : Int)) = true := decide_eq_true c11
       clear c11
       replace H := Option.bind_eq_some_iff.mp H
       obtain ⟨t119, A120, H⟩ := H
       replace H : ((XBrought.f x8_1 x11_2).bind fun t120 => ((XNext.f a0_0 a0_1 a0_2 a0_3 a0_4 0 (rdOf false y115 x16_3) t120).bind fun t121 => (if (t119 != t121) = true then ((XPattern.f x11_2 (rdOf false y115 x16_3)).bind fun t122 => (some (t122, x8_1, true))) else (iso_hexes.l2 k3 x8_1 x11_2 x8_1 x11_2 y115 (y115.length : Int) (wrap64 (x16_3 + 1)) a0_0 a0_1 a0_2 a0_3 a0_4)))) = some (r1, r2, r3) := H
       have A12 := Aside0.mk A120
       clear A120
       replace H := Option.bind_eq_some_iff.mp H
       obtain ⟨t120, A130, H⟩ := H
       replace H : ((XNext.f a0_0 a0_1 a0_2 a0_3 a0_4 0 (rdOf false y115 x16_3) t120).bind fun t121 => (if (t119 != t121) = true then ((XPattern.f x11_2 (rdOf false y115 x16_3)).bind fun t122 => (some (t122, x8_1, true))) else (iso_hexes.l2 k3 x8_1 x11_2 x8_1 x11_2 y115 (y115.length : Int) (wrap64 (x16_3 + 1)) a0_0 a0_1 a0_2 a0_3 a0_4))) = some (r1, r2, r3) := H
       have A13 := Aside0.mk A130
       clear A130
       replace H := Option.bind_eq_some_iff.mp H
       obtain ⟨t121, A140, H⟩ := H
       replace H : (if (t119 != t121) = true then ((XPattern.f x11_2 (rdOf false y115 x16_3)).bind fun t122 => (some (t122, x8_1, true))) else (iso_hexes.l2 k3 x8_1 x11_2 x8_1 x11_2 y115 (y115.length : Int) (wrap64 (x16_3 + 1)) a0_0 a0_1 a0_2 a0_3 a0_4)) = some (r1, r2, r3) := H
       have A14 := Aside0.mk A140
       clear A140
       by_cases c15 : (t119 != t121) = true
       rotate_left
       ·
        rw [if_neg c15] at H
        have c15b0 : (t119 != t121) = false := by simpa using c15
        (try (have c15b1 : decide (t119 = t121) = true := by simpa using c15))
        (try (have c15b2 : (t119 == t121) = true := by simpa using c15))
        clear c15
        have H' := Aside0.mk H
        clear H
        have p118 : 0 ≤ (x16_3 : Int) := of_decide_eq_true as_
        have q118 : x16_3 < (y115.length : Int) := of_decide_eq_true as_
        obtain ⟨ad118, e118, hx118_0⟩ := Kd.at_bool (Kd.R_reads' HO_14.out).2.2 x16_3 p118 q118
        cases e118
        replace p118 := eq_true p118
        replace q118 := eq_true q118
        try go_wp2
        replace HO_14 := Aside0.mk (Kd.R_drew HO_14.out)
        replace BK113 := Aside0.mk (blk_drew BK113.out)
        replace BK114 := Aside0.mk (blk_drew BK114.out)
        replace HB := Aside0.mk (below_drew1 HB.out)
        refine start_ (n := 11) (S := fun w' => w'.cell? ⟨gb113, 0, none⟩ = some (.int .i64 a0_0) ∧ w'.cell? ⟨gb113, 1, none⟩ = some (.int .u64 a0_1) ∧ w'.cell? ⟨gb113, 2, none⟩ = some (.int .u64 a0_2) ∧ w'.cell? ⟨gb113, 3, none⟩ = some (.int .u64 a0_3) ∧ w'.cell? ⟨gb113, 4, none⟩ = some (.int .u64 a0_4)) (ds := []) (m_ 11 0) (by kernel_rfl) rfl rfl ⟨(blk_cell BK113.out 0).trans rfl, (blk_cell BK113.out 1).trans rfl, (blk_cell BK113.out 2).trans rfl, (blk_cell BK113.out 3).trans rfl, (blk_cell BK113.out 4).trans rfl⟩ (fun hHeld => ?_); refine with_tabW iso_hexes.tab10 iso_hexes.bits10 (fun HT_ HW_ => ?_)
        generalize wr.drew = w25 at HO_14 BK113 BK114 HB hHeld ⊢
        refine pq_ 1 (some 21) (m_ 11 2) (h := ?_)
        refine pq_ 2 (some 22) (m_ 11 6) (h := ?_)
        refine pq_ 5 (some 25) (m_ 11 38) (h := ?_)
        refine pq_ 6 (some 26) (m_ 11 102) (h := ?_)
        refine pq_ 7 (some 27) (m_ 11 230) (h := ?_)
        refine tq5_ 0 (some 20) (m_ 11 231) (h := ?_)
        refine tq5_ 4 (some 24) (m_ 11 247) (h := ?_)
        refine one_ (i := 3) (N := some 23) (m_ 11 255) rfl rfl (one_of HT_.out (by kernel_rfl)) (by decide) (fun K hK => ?_)
        refine goes_ Tryd.func58 (by kernel_rfl) rfl #[.agg #[.int .i64 a0_0, .int .u64 a0_1, .int .u64 a0_2, .int .u64 a0_3, .int .u64 a0_4], .int .i64 0, .bool (rdOf false y115 x16_3), .int .i64 x11_2] (by rfl) rfl rfl ar_ ?_
        with_reducible refine (XNext.calls a0_0 a0_1 a0_2 a0_3 a0_4 0 (rdOf false y115 x16_3) x11_2 t119 _ A12.out).mono ?_
        rintro e w26 ⟨rfl, hb⟩
        refine ⟨_, rfl, ?_⟩
        replace HO_14 := Aside0.mk (Kd.R_below (kr_ HO_14.out) hb)
        replace BK113 := bb_ BK113.out hb
        replace BK114 := bb_ BK114.out hb
        replace HB := Aside0.mk (below_step (hg2_ GE113.out GE114.out) hb)
        (try clear hb)
        (try clear hb2)
        (try clear hk)
        (try clear hi)
        refine hK.out _ _ ⟨(blk_cell BK113.out 0).trans rfl, (blk_cell BK113.out 1).trans rfl, (blk_cell BK113.out 2).trans rfl, (blk_cell BK113.out 3).trans rfl, (blk_cell BK113.out 4).trans rfl⟩ (fun hHeld => ?_)
        clear hK K
        refine norm_ (a' := ?_) ?_ ?_
        rotate_left
        ·
         show Act.put _ (some 23) _ = _
         simp only [puts_]
         rfl
        refine one_ (i := 8) (N := some 28) (m_ 11 511) rfl rfl (one_of HT_.out (by kernel_rfl)) (by decide) (fun K hK => ?_)
        refine goes_ Tryd.func57 (by kernel_rfl) rfl #[.int .i64 x8_1, .int .i64 x11_2] (by rfl) rfl rfl ar_ ?_
        with_reducible refine (XBrought.calls x8_1 x11_2 t120 _ ?side1 A13.out).mono ?_
        (case side1 => exact HGSix.out.below (hg2_ GE113.out GE114.out))
        rintro e w27 ⟨rfl, hb⟩
        refine ⟨_, rfl, ?_⟩
        replace HO_14 := Aside0.mk (Kd.R_below (kr_ HO_14.out) hb)
        replace BK113 := bb_ BK113.out hb
        replace BK114 := bb_ BK114.out hb
        replace HB := Aside0.mk (below_step (hg2_ GE113.out GE114.out) hb)
        (try clear hb)
        (try clear hb2)
        (try clear hk)
        (try clear hi)
        refine hK.out _ _ ⟨(blk_cell BK113.out 0).trans rfl, (blk_cell BK113.out 1).trans rfl, (blk_cell BK113.out 2).trans rfl, (blk_cell BK113.out 3).trans rfl, (blk_cell BK113.out 4).trans rfl⟩ (fun hHeld => ?_)
        clear hK K
        refine norm_ (a' := ?_) ?_ ?_
        rotate_left
        ·
         show Act.put _ (some 28) _ = _
         simp only [puts_]
         rfl
        refine one_ (i := 9) (N := some 29) (m_ 11 1023) rfl rfl (one_of HT_.out (by kernel_rfl)) (by decide) (fun K hK => ?_)
        refine goes_ Tryd.func58 (by kernel_rfl) rfl #[.agg #[.int .i64 a0_0, .int .u64 a0_1, .int .u64 a0_2, .int .u64 a0_3, .int .u64 a0_4], .int .i64 0, .bool (rdOf false y115 x16_3), .int .i64 t120] (by rfl) rfl rfl ar_ ?_
        with_reducible refine (XNext.calls a0_0 a0_1 a0_2 a0_3 a0_4 0 (rdOf false y115 x16_3) t120 t121 _ A14.out).mono ?_
        rintro e w28 ⟨rfl, hb⟩
        refine ⟨_, rfl, ?_⟩
        replace HO_14 := Aside0.mk (Kd.R_below (kr_ HO_14.out) hb)
        replace BK113 := bb_ BK113.out hb
        replace BK114 := bb_ BK114.out hb
        replace HB := Aside0.mk (below_step (hg2_ GE113.out GE114.out) hb)
        (try clear hb)
        (try clear hb2)
        (try clear hk)
        (try clear hi)
        refine hK.out _ _ ⟨(blk_cell BK113.out 0).trans rfl, (blk_cell BK113.out 1).trans rfl, (blk_cell BK113.out 2).trans rfl, (blk_cell BK113.out 3).trans rfl, (blk_cell BK113.out 4).trans rfl⟩ (fun hHeld => ?_)
        clear hK K
        refine norm_ (a' := ?_) ?_ ?_
        rotate_left
        ·
         show Act.put _ (some 29) _ = _
         simp only [puts_]
         rfl
        refine pq_ 10 (some 30) (m_ 11 2047) (h := ?_)
        refine done_ (done_of HT_.out (by kernel_rfl)) ?_
        try go_wp2
        go_roundg k3
        case measure => have := HK1.out; have := HK2.out; have := HK3.out; omega
        case rel => exact ⟨(wrap64 (x16_3 + 1)), (x115001_3), rs_, H', ⟨by have := HK1.out; have := HK2.out; have := HK3.out; omega⟩, ⟨kr_ HO_14.out⟩, ⟨bk_ BK113.out⟩, ⟨bk_ BK114.out⟩, ⟨by repeat (first | (with_reducible first | exact HB.out | apply ba_ | apply bn_ | apply bd_ | refine below_set ?_ GE113.out | refine below_set ?_ GE114.out) | exact HB.out)⟩⟩
       rw [if_pos c15] at H
       have c15b0 : (t119 != t121) = true := c15
       (try (have c15b1 : decide (t119 = t121) = false := by simpa using c15))
       (try (have c15b2 : (t119 == t121) = false := by simpa using c15))
       (try (have c15b3 : ¬ (t119 = t121) := by simpa using c15))
       clear c15
       replace H := Option.bind_eq_some_iff.mp H
       obtain ⟨t122, A160, H⟩ := H
       replace H : (some (t122, x8_1, true)) = some (r1, r2, r3) := H
       have A16 := Aside0.mk A160
       clear A160
       simp only [Option.some.injEq, Prod.mk.injEq] at H
       obtain ⟨rfl, rfl, rfl⟩ := H
       have p118 : 0 ≤ (x16_3 : Int) := of_decide_eq_true as_
       have q118 : x16_3 < (y115.length : Int) := of_decide_eq_true as_
       obtain ⟨ad118, e118, hx118_0⟩ := Kd.at_bool (Kd.R_reads' HO_14.out).2.2 x16_3 p118 q118
       cases e118
       replace p118 := eq_true p118
       replace q118 := eq_true q118
       try go_wp2
       replace HO_14 := Aside0.mk (Kd.R_drew HO_14.out)
       replace BK113 := Aside0.mk (blk_drew BK113.out)
       replace BK114 := Aside0.mk (blk_drew BK114.out)
       replace HB := Aside0.mk (below_drew1 HB.out)
       refine start_ (n := 11) (S := fun w' => w'.cell? ⟨gb113, 0, none⟩ = some (.int .i64 a0_0) ∧ w'.cell? ⟨gb113, 1, none⟩ = some (.int .u64 a0_1) ∧ w'.cell? ⟨gb113, 2, none⟩ = some (.int .u64 a0_2) ∧ w'.cell? ⟨gb113, 3, none⟩ = some (.int .u64 a0_3) ∧ w'.cell? ⟨gb113, 4, none⟩ = some (.int .u64 a0_4)) (ds := []) (m_ 11 0) (by kernel_rfl) rfl rfl ⟨(blk_cell BK113.out 0).trans rfl, (blk_cell BK113.out 1).trans rfl, (blk_cell BK113.out 2).trans rfl, (blk_cell BK113.out 3).trans rfl, (blk_cell BK113.out 4).trans rfl⟩ (fun hHeld => ?_); refine with_tabW iso_hexes.tab10 iso_hexes.bits10 (fun HT_ HW_ => ?_)
       generalize wr.drew = w17 at HO_14 BK113 BK114 HB hHeld ⊢
       refine pq_ 1 (some 21) (m_ 11 2) (h := ?_)
       refine pq_ 2 (some 22) (m_ 11 6) (h := ?_)
       refine pq_ 5 (some 25) (m_ 11 38) (h := ?_)
       refine pq_ 6 (some 26) (m_ 11 102) (h := ?_)
       refine pq_ 7 (some 27) (m_ 11 230) (h := ?_)
       refine tq5_ 0 (some 20) (m_ 11 231) (h := ?_)
       refine tq5_ 4 (some 24) (m_ 11 247) (h := ?_)
       refine one_ (i := 3) (N := some 23) (m_ 11 255) rfl rfl (one_of HT_.out (by kernel_rfl)) (by decide) (fun K hK => ?_)
       refine goes_ Tryd.func58 (by kernel_rfl) rfl #[.agg #[.int .i64 a0_0, .int .u64 a0_1, .int .u64 a0_2, .int .u64 a0_3, .int .u64 a0_4], .int .i64 0, .bool (rdOf false y115 x16_3), .int .i64 x11_2] (by rfl) rfl rfl ar_ ?_
       with_reducible refine (XNext.calls a0_0 a0_1 a0_2 a0_3 a0_4 0 (rdOf false y115 x16_3) x11_2 t119 _ A12.out).mono ?_
       rintro e w18 ⟨rfl, hb⟩
       refine ⟨_, rfl, ?_⟩
       replace HO_14 := Aside0.mk (Kd.R_below (kr_ HO_14.out) hb)
       replace BK113 := bb_ BK113.out hb
       replace BK114 := bb_ BK114.out hb
       replace HB := Aside0.mk (below_step (hg2_ GE113.out GE114.out) hb)
       (try clear hb)
       (try clear hb2)
       (try clear hk)
       (try clear hi)
       refine hK.out _ _ ⟨(blk_cell BK113.out 0).trans rfl, (blk_cell BK113.out 1).trans rfl, (blk_cell BK113.out 2).trans rfl, (blk_cell BK113.out 3).trans rfl, (blk_cell BK113.out 4).trans rfl⟩ (fun hHeld => ?_)
       clear hK K
       refine norm_ (a' := ?_) ?_ ?_
       rotate_left
       ·
        show Act.put _ (some 23) _ = _
        simp only [puts_]
        rfl
       refine one_ (i := 8) (N := some 28) (m_ 11 511) rfl rfl (one_of HT_.out (by kernel_rfl)) (by decide) (fun K hK => ?_)
       refine goes_ Tryd.func57 (by kernel_rfl) rfl #[.int .i64 x8_1, .int .i64 x11_2] (by rfl) rfl rfl ar_ ?_
       with_reducible refine (XBrought.calls x8_1 x11_2 t120 _ ?side1 A13.out).mono ?_
       (case side1 => exact HGSix.out.below (hg2_ GE113.out GE114.out))
       rintro e w19 ⟨rfl, hb⟩
       refine ⟨_, rfl, ?_⟩
       replace HO_14 := Aside0.mk (Kd.R_below (kr_ HO_14.out) hb)
       replace BK113 := bb_ BK113.out hb
       replace BK114 := bb_ BK114.out hb
       replace HB := Aside0.mk (below_step (hg2_ GE113.out GE114.out) hb)
       (try clear hb)
       (try clear hb2)
       (try clear hk)
       (try clear hi)
       refine hK.out _ _ ⟨(blk_cell BK113.out 0).trans rfl, (blk_cell BK113.out 1).trans rfl, (blk_cell BK113.out 2).trans rfl, (blk_cell BK113.out 3).trans rfl, (blk_cell BK113.out 4).trans rfl⟩ (fun hHeld => ?_)
       clear hK K
       refine norm_ (a' := ?_) ?_ ?_
       rotate_left
       ·
        show Act.put _ (some 28) _ = _
        simp only [puts_]
        rfl
       refine one_ (i := 9) (N := some 29) (m_ 11 1023) rfl rfl (one_of HT_.out (by kernel_rfl)) (by decide) (fun K hK => ?_)
       refine goes_ Tryd.func58 (by kernel_rfl) rfl #[.agg #[.int .i64 a0_0, .int .u64 a0_1, .int .u64 a0_2, .int .u64 a0_3, .int .u64 a0_4], .int .i64 0, .bool (rdOf false y115 x16_3), .int .i64 t120] (by rfl) rfl rfl ar_ ?_
       with_reducible refine (XNext.calls a0_0 a0_1 a0_2 a0_3 a0_4 0 (rdOf false y115 x16_3) t120 t121 _ A14.out).mono ?_
       rintro e w20 ⟨rfl, hb⟩
       refine ⟨_, rfl, ?_⟩
       replace HO_14 := Aside0.mk (Kd.R_below (kr_ HO_14.out) hb)
       replace BK113 := bb_ BK113.out hb
       replace BK114 := bb_ BK114.out hb
       replace HB := Aside0.mk (below_step (hg2_ GE113.out GE114.out) hb)
       (try clear hb)
       (try clear hb2)
       (try clear hk)
       (try clear hi)
       refine hK.out _ _ ⟨(blk_cell BK113.out 0).trans rfl, (blk_cell BK113.out 1).trans rfl, (blk_cell BK113.out 2).trans rfl, (blk_cell BK113.out 3).trans rfl, (blk_cell BK113.out 4).trans rfl⟩ (fun hHeld => ?_)
       clear hK K
       refine norm_ (a' := ?_) ?_ ?_
       rotate_left
       ·
        show Act.put _ (some 29) _ = _
        simp only [puts_]
        rfl
       refine pq_ 10 (some 30) (m_ 11 2047) (h := ?_)
       refine done_ (done_of HT_.out (by kernel_rfl)) ?_
       try go_wp2_with (first | ((with_reducible refine gate_callee (f := 88) rfl ?_); refine goesL_ (some 33) rfl rfl Tryd.func88 (by kernel_rfl) rfl #[.int .i64 x11_2, .bool (rdOf false y115 x16_3)] rfl ar_ ?_; (with_reducible refine (XPattern.calls x11_2 (rdOf false y115 x16_3) t122 _ ?side1 A16.out).mono ?_); (case side1 => exact HGSix.out.below (hg2_ GE113.out GE114.out)); rintro e w21 ⟨v123, rfl, ho0, hb⟩; refine ⟨_, rfl, ?_⟩; have HO124 := Aside0.mk (Kd.R_lower ho0 (below_size (hg2_ GE113.out GE114.out))); replace HO_14 := Aside0.mk (Kd.R_below (kr_ HO_14.out) hb); replace BK113 := bb_ BK113.out hb; replace BK114 := bb_ BK114.out hb; replace HB := Aside0.mk (below_step (hg2_ GE113.out GE114.out) hb); (try clear hb); (try clear hb2); (try clear hk); (try clear hi); (try clear ho0); obtain ⟨Ao22, co22, eo22⟩ := Kd.R_slice HO124.out; subst eo22; have hnb23 := NB114_113.out; have hnc23 := NB113_114.out; obtain ⟨hcz24_0, hcz24_1⟩ := cz2_ BK114.out; obtain ⟨hfz24_0, hfz24_1⟩ := fz2_ BK114.out))
       refine bodyPost_ret (results_ct rfl _ _ gb114 37 #[.slice Ao22 t122.length co22, .int .i64 x8_1] (0, 0) _ rfl (by (with_reducible repeat (first | apply bN_ | apply bD_ | apply bA_)); refine blk_put (cs := #[.slice Ao22 t122.length co22, .int .i64 x115001_3]) ?_ 1 _ rfl; (with_reducible repeat (first | apply bN_ | apply bD_ | apply bA_)); refine blk_put (cs := #[.slice none 0 0, .int .i64 x115001_3]) ?_ 0 _ rfl; (with_reducible repeat (first | apply bN_ | apply bD_ | apply bA_)); exact BK114.out) Tryd.underlying37 rfl (by kernel_rfl)) rfl ?_
       exact ⟨_, by first | rfl | (simp [errW_none, errW_some] <;> rfl) | (simp [*, errW_none, errW_some] <;> rfl), by (with_reducible repeat (first | apply Kd.R_alloc | apply Kd.R_drewN | apply Kd.R_drew)); exact Kd.R_mono (Kd.R_far (p := ⟨gb114, 1, none⟩) (Kd.R_far (p := ⟨gb114, 0, none⟩) (Kd.R_types HO124.out BK114.out (by decide)) (fun _ hk => hk.2) (.slice Ao22 t122.length co22)) (fun _ hk => hk.2) (.int .i64 x8_1)) (fun _ hk => trivial), by repeat (first | (with_reducible first | exact HB.out | apply ba_ | apply bn_ | apply bd_ | refine below_set ?_ GE113.out | refine below_set ?_ GE114.out) | exact HB.out)⟩
mutual
def iso_triangles.l0 : Nat → List (S65) → Int → Int → Int → Int → Int → Int → Int → Option ((List (S65)) × Int × Bool)
 | 0, _, _, _, _, _, _, _, _ => none
 | k + 1, x4, x19, x20, x149000, x149001, x149002, x149003, x149004 => if x20 < x19 then ((some (([false, true] : List Bool) : List Bool)).bind fun y154 => (iso_triangles.l1 k x4 x20 x19 x20 y154 (y154.length : Int) 0 x149000 x149001 x149002 x149003 x149004)) else (some (([] : List (S65)), 0, false))
def iso_triangles.l1 : Nat → List (S65) → Int → Int → Int → List Bool → Int → Int → Int → Int → Int → Int → Int → Option ((List (S65)) × Int × Bool)
 | 0, _, _, _, _, _, _, _, _, _, _, _, _ => none
 | k + 1, x4, x6, x19, x20, x23, x24, x25, x149000, x149001, x149002, x149003, x149004 => if x25 < x24 then (if 0 ≤ x25 then (if x25 < (x23.length : Int) then ((XNext.f x149000 x149001 x149002 x149003 x149004 0 (rdOf false x23 x25) x6).bind fun t158 => ((XNext.f x149000 x149001 x149002 x149003 x149004 1 (rdOf false x23 x25) x6).bind fun t159 => (if (t158 == t159) = true then (iso_triangles.l1 k x4 x6 x19 x20 x23 x24 (wrap64 (x25 + 1)) x149000 x149001 x149002 x149003 x149004) else (if 0 ≤ x6 then (if x6 ≤ (x4.length : Int) then ((XClone.f (x4.take (x6 : Int).toNat)).bind fun t164 => (if rdOf false x23 x25 = true then (if t164.length < 5864062014805 then ((XOf.f (t164 ++ [(⟨(⟨0, 0⟩ : S63), 0⟩ : S65)])).bind fun t170 => (some (t170, 1, true))) else (none)) else ((XOf.f t164).bind fun t173 => (some (t173, 1, true))))) else (none)) else (none))))) else (none)) else (none)) else (iso_triangles.l0 k x4 x19 (wrap64 (x20 + 1)) x149000 x149001 x149002 x149003 x149004)
end
def iso_triangles.f (k : Nat) (a0_0 : Int) (a0_1 : Int) (a0_2 : Int) (a0_3 : Int) (a0_4 : Int) : Option ((List (S65)) × Int × Bool) := (XBeside.f a0_0 0 0 0).bind fun bt150 => (iso_triangles.l0 k bt150.1 (wrap64 ((bt150.1.length : Int) + 1)) 0 a0_0 a0_1 a0_2 a0_3 a0_4)
def iso_triangles.T8 : Bool × List (List Nat × List Nat) := (true, [([], []), ([], []), ([], []), ([0, 1, 2], [0, 1, 2]), ([], []), ([], []), ([], []), ([4, 5, 6, 3], [4, 5, 6]), ([3, 7], [3, 7])])
def iso_triangles.B8 : List Nat := [0, 0, 0, 7, 0, 0, 0, 127, 255]
theorem iso_triangles.tab8 : rtab .any (opsOf Tryd.f55 8) = iso_triangles.T8 := by kernel_rfl
theorem iso_triangles.bits8 : waitsOk iso_triangles.T8.2 iso_triangles.B8 = true := by kernel_rfl
set_option maxHeartbeats 8000000 in
set_option maxRecDepth 100000 in
theorem iso_triangles.calls (k : Nat) (a0_0 : Int) (a0_1 : Int) (a0_2 : Int) (a0_3 : Int) (a0_4 : Int) (r1 : List (S65)) (r2 : Int) (r3 : Bool) (w : World) (hGSix : Six w) (h : iso_triangles.f k a0_0 a0_1 a0_2 a0_3 a0_4 = some (r1, r2, r3)) :
  Calls Tryd.prog 55 #[.agg #[.int .i64 a0_0, .int .u64 a0_1, .int .u64 a0_2, .int .u64 a0_3, .int .u64 a0_4]] w fun e w' => ∃ v0_ : Value, e = .returned (.tuple #[.agg #[v0_, .int .i64 r2], .bool r3]) ∧ Kd.R k65 65 w' w.heap.size (fun _ => True) v0_ r1 ∧ Below w.heap.size w w' := by
 have hu29 := Tryd.underlying29
 have hu37 := Tryd.underlying37
 have hu65 := Tryd.underlying65
 have HB := Aside0.mk (Below.refl w.heap.size w)
 have HGSix := Aside0.mk hGSix
 clear hGSix
 have H : ((XBeside.f a0_0 0 0 0).bind fun bt150 => (iso_triangles.l0 k bt150.1 (wrap64 ((bt150.1.length : Int) + 1)) 0 a0_0 a0_1 a0_2 a0_3 a0_4)) = some (r1, r2, r3) := h
 clear h
 replace H := Option.bind_eq_some_iff.mp H
 obtain ⟨⟨t150, t153⟩, A20, H⟩ := H
 replace H : (iso_triangles.l0 k t150 (wrap64 ((t150.length : Int) + 1)) 0 a0_0 a0_1 a0_2 a0_3 a0_4) = some (r1, r2, r3) := H
 have A2 := Aside0.mk A20
 clear A20
 have H' := Aside0.mk H
 clear H
 go_enter Tryd.func55, Tryd.ntmps55
 go_wp2_with (first | ((with_reducible refine gate_dst (N := 1) rfl ?_); refine bx_ 1 #[.int .i64 a0_0, .int .u64 a0_1, .int .u64 a0_2, .int .u64 a0_3, .int .u64 a0_4] 29 ?_; intro gb148 hg w3 hbox hb; have BK148 := Aside0.mk (hbox); have GW148 := Aside0.mk ((by rw [hg]; exact (below_size hb_) : w.heap.size ≤ gb148)); have GE148 := GW148; replace HB := Aside0.mk (below_step hb_ hb); clear hb hbox hg) | ((with_reducible refine gate_dst (N := 2) rfl ?_); refine bx_ 2 #[.slice none 0 0, .int .i64 0] 37 ?_; intro gb149 hg w4 hbox hb; have BK149 := Aside0.mk (hbox); have GW149 := Aside0.mk ((by rw [hg]; exact (below_size (hg_ GE148.out)) : w.heap.size ≤ gb149)); have GE149 := GW149; have NB148_149 := Aside0.mk ((by rw [hg]; exact ne1_ BK148.out : gb148 ≠ gb149)); have NB149_148 := Aside0.mk ((by rw [hg]; exact ne2_ BK148.out : gb149 ≠ gb148)); replace BK148 := bb_ BK148.out hb; replace HB := Aside0.mk (below_step (hg_ GE148.out) hb); clear hb hbox hg; have hnb5 := NB148_149.out; have hnc5 := NB149_148.out; obtain ⟨hcz6_0, hcz6_1, hcz6_2, hcz6_3, hcz6_4⟩ := cz5_ BK148.out; obtain ⟨hfz6_0, hfz6_1, hfz6_2, hfz6_3, hfz6_4⟩ := fz5_ BK148.out) | ((with_reducible refine gate_callee (f := 89) rfl ?_); refine goesL_ (some 14) rfl rfl Tryd.func89 (by kernel_rfl) rfl #[.int .i64 a0_0, .agg #[.int .i64 0, .int .i64 0, .int .i64 0]] rfl ar_ ?_; (with_reducible refine (XBeside.calls a0_0 0 0 0 t150 t153 _ ?side1 (by first | with_reducible exact A2.out | (have q_ := A2.out; rw [← Nbq25.out] at q_; exact q_))).mono ?_); (case side1 => exact HGSix.out.below (hg2_ GE148.out GE149.out)); rintro e w7 ⟨v151, rfl, ho0, hb⟩; refine ⟨_, rfl, ?_⟩; have HO152 := Aside0.mk (Kd.R_lower ho0 (below_size (hg2_ GE148.out GE149.out))); replace BK148 := bb_ BK148.out hb; replace BK149 := bb_ BK149.out hb; replace HB := Aside0.mk (below_step (hg2_ GE148.out GE149.out) hb); (try clear hb); (try clear hb2); (try clear hk); (try clear hi); (try clear ho0); (try simp only [errW_none, errW_some]); obtain ⟨Ao8, co8, eo8⟩ := Kd.R_slice HO152.out; subst eo8))
 go_loopg [20] k (fun kq v20 w' => ∃ (x20_1 : Int) (x150001_1 : Int), v20 = .int .i64 x20_1 ∧ Aside0 (iso_triangles.l0 kq t150 (wrap64 ((t150.length : Int) + 1)) x20_1 a0_0 a0_1 a0_2 a0_3 a0_4 = some (r1, r2, r3)) ∧ Aside0 (kq ≤ k) ∧ Aside0 (Kd.R k65 65 w' w.heap.size (fun _ => True) (.slice Ao8 t150.length co8) t150) ∧ Aside0 (w'.heap[gb148]? = some (.cells #[.int .i64 a0_0, .int .u64 a0_1, .int .u64 a0_2, .int .u64 a0_3, .int .u64 a0_4] 29 (0, 0))) ∧ Aside0 (w'.heap[gb149]? = some (.cells #[(.slice none 0 0), .int .i64 x150001_1] 37 (0, 0))) ∧ Aside0 (Below w.heap.size w w'))
 case atStart => exact ⟨(0), (0), rs_, H', ⟨Nat.le_refl _⟩, ⟨kr_ HO152.out⟩, ⟨bk_ BK148.out⟩, ⟨bk_ BK149.out⟩, ⟨by repeat (first | (with_reducible first | exact HB.out | apply ba_ | apply bn_ | apply bd_ | refine below_set ?_ GE148.out | refine below_set ?_ GE149.out) | exact HB.out)⟩⟩
 case round =>
  clear H'
  try clear p2
  try clear c5
  try clear p6
  try clear c8
  try clear hcz6_0
  try clear hcz6_1
  try clear hcz6_2
  try clear hcz6_3
  try clear hcz6_4
  try clear hfz6_0
  try clear hfz6_1
  try clear hfz6_2
  try clear hfz6_3
  try clear hfz6_4
  obtain ⟨x20_1, x150001_1, rfl, HA, HK1, HO_4, BK148, BK149, HB⟩ := hrel
  cases gk with
  | zero => exact absurd HA.out (by simp [iso_triangles.l0])
  | succ k1 =>
   have H := HA.out
   clear HA
   simp only [iso_triangles.l0] at H
   by_cases c9 : x20_1 < (wrap64 ((t150.length : Int) + 1))
   rotate_left
   ·
    rw [if_neg c9] at H
    have c9b0 : decide (x20_1 < (wrap64 ((t150.length : Int) + 1))) = false := decide_eq_false c9
    clear c9
    simp only [Option.some.injEq, Prod.mk.injEq] at H
    obtain ⟨rfl, rfl, rfl⟩ := H
    have hnb51 := NB149_148.out
    have hnc51 := NB148_149.out
    obtain ⟨hcz52_0, hcz52_1⟩ := cz2_ BK149.out
    obtain ⟨hfz52_0, hfz52_1⟩ := fz2_ BK149.out
    go_wp2
    refine bodyPost_ret (results_ct rfl _ _ gb149 37 #[.slice none 0 0, .int .i64 0] (0, 0) _ rfl (by (with_reducible repeat (first | apply bN_ | apply bD_ | apply bA_)); refine blk_put (cs := #[.slice none 0 0, .int .i64 x150001_1]) ?_ 1 _ rfl; (with_reducible repeat (first | apply bN_ | apply bD_ | apply bA_)); refine blk_put (cs := #[.slice none 0 0, .int .i64 x150001_1]) ?_ 0 _ rfl; (with_reducible repeat (first | apply bN_ | apply bD_ | apply bA_)); exact BK149.out) Tryd.underlying37 rfl (by kernel_rfl)) rfl ?_
    exact ⟨_, by first | rfl | (simp [errW_none, errW_some] <;> rfl) | (simp [*, errW_none, errW_some] <;> rfl), by first | exact Kd.R_nil _ _ _ _ _ | exact Kd.N_nil _ _ _ _ _ | exact Kd.V_nil _ _ _ _ _ | exact Kd.Q_nil _ _ _ _ _ | exact Kd.S_nil _ _ _ _ _, by repeat (first | (with_reducible first | exact HB.out | apply ba_ | apply bn_ | apply bd_ | refine below_set ?_ GE148.out | refine below_set ?_ GE149.out) | exact HB.out)⟩
   rw [if_pos c9] at H
   have c9b0 : decide (x20_1 < (wrap64 ((t150.length : Int) + 1))) = true := decide_eq_true c9
   clear c9
   obtain ⟨y154, hy154⟩ : ∃ y_ : List Bool, y_ = (([false, true] : List Bool)) := ⟨_, rfl⟩
   replace H : (iso_triangles.l1 k1 t150 x20_1 (wrap64 ((t150.length : Int) + 1)) x20_1 y154 (y154.length : Int) 0 a0_0 a0_1 a0_2 a0_3 a0_4) = some (r1, r2, r3) := by first | (rw [hy154]; with_reducible exact H) | (have H2_ := (Option.bind_some _ _).symm.trans H; rw [hy154]; with_reducible exact H2_) | (have H2_ := (Option.bind_some _ _).symm.trans H; with_reducible exact H2_) | with_reducible exact H | (rw [hy154]; exact H) | exact H
   have Ny154 := Aside0.mk hy154
   clear hy154
   have H' := Aside0.mk H
   clear H
   go_wp2_with (first | ((with_reducible refine gate_dst (N := 23) rfl ?_); refine Kd.R_lit Kd.bool _ 4 ?hg (N := 23) ?hd (xs := ([false, true] : List Bool)) (inner := [.bool false, .bool true]) (ok := fun _ => True) (okp := fun _ => True) ?hr ?hp (fun _ hk => hk) trivial (Below.refl _ _) (Nat.le_refl _) (by simp) ?_; (case hd => rfl); (case hg => rfl); (case hr => first | (go_simp; done) | (go_simp; rfl)); (case hp => exact (Reps.one (show Kd.M Kd.bool _ _ _ false [.bool false] from rfl) (Reps.one (show Kd.M Kd.bool _ _ _ true [.bool true] from rfl) (Reps.none _ _)))); intro v155 w10 ho11 hb hg_ hnew_; clear hg_ hnew_; (first | rw [← Ny154.out] at ho11 | (simp only [Int.reduceToNat] at ho11; rw [← Ny154.out] at ho11)); have HO156 := Aside0.mk (Kd.R_lower ho11 (below_size (hg2_ GE148.out GE149.out))); replace HO_4 := Aside0.mk (Kd.R_below (kr_ HO_4.out) hb); replace BK148 := bb_ BK148.out hb; replace BK149 := bb_ BK149.out hb; replace HB := Aside0.mk (below_step (hg2_ GE148.out GE149.out) hb); clear hb ho11; obtain ⟨Ao12, co12, eo12⟩ := Kd.R_slice HO156.out; subst eo12))
   go_loopg [25] k1 (fun kq v25 w' => ∃ (x25_2 : Int) (x150001_2 : Int), v25 = .int .i64 x25_2 ∧ Aside0 (iso_triangles.l1 kq t150 x20_1 (wrap64 ((t150.length : Int) + 1)) x20_1 y154 (y154.length : Int) x25_2 a0_0 a0_1 a0_2 a0_3 a0_4 = some (r1, r2, r3)) ∧ Aside0 (kq ≤ k1) ∧ Aside0 (Kd.R k65 65 w' w.heap.size (fun _ => True) (.slice Ao8 t150.length co8) t150) ∧ Aside0 (Kd.R Kd.bool 4 w' w.heap.size (fun _ => True) (.slice Ao12 y154.length co12) y154) ∧ Aside0 (w'.heap[gb148]? = some (.cells #[.int .i64 a0_0, .int .u64 a0_1, .int .u64 a0_2, .int .u64 a0_3, .int .u64 a0_4] 29 (0, 0))) ∧ Aside0 (w'.heap[gb149]? = some (.cells #[(.slice none 0 0), .int .i64 x150001_2] 37 (0, 0))) ∧ Aside0 (Below w.heap.size w w'))
   case atStart => exact ⟨(0), (x150001_1), rs_, H', ⟨Nat.le_refl _⟩, ⟨kr_ HO_4.out⟩, ⟨kr_ HO156.out⟩, ⟨bk_ BK148.out⟩, ⟨bk_ BK149.out⟩, ⟨by repeat (first | (with_reducible first | exact HB.out | apply ba_ | apply bn_ | apply bd_ | refine below_set ?_ GE148.out | refine below_set ?_ GE149.out) | exact HB.out)⟩⟩
   case round =>
    clear H'
    try clear p2
    try clear c5
    try clear p6
    try clear c8
    try clear c9
    try clear c9b0
    try clear hcz6_0
    try clear hcz6_1
    try clear hcz6_2
    try clear hcz6_3
    try clear hcz6_4
    try clear hfz6_0
    try clear hfz6_1
    try clear hfz6_2
    try clear hfz6_3
    try clear hfz6_4
    try clear p2
    try clear p6
    obtain ⟨x25_2, x150001_2, rfl, HA, HK2, HO_4, HO_23, BK148, BK149, HB⟩ := hrel
    cases gk with
    | zero => exact absurd HA.out (by simp [iso_triangles.l1])
    | succ k2 =>
     have H := HA.out
     clear HA
     simp only [iso_triangles.l1] at H
     by_cases c13 : x25_2 < (y154.length : Int)
     rotate_left
     ·
      rw [if_neg c13] at H
      have c13b0 : decide (x25_2 < (y154.length : Int)) = false := decide_eq_false c13
      clear c13
      have H' := Aside0.mk H
      clear H
      go_wp2
      go_roundg k2
      case measure => have := HK1.out; have := HK2.out; omega
      case rel => exact ⟨(wrap64 (x20_1 + 1)), (x150001_2), rs_, H', ⟨by have := HK1.out; have := HK2.out; omega⟩, ⟨kr_ HO_4.out⟩, ⟨bk_ BK148.out⟩, ⟨bk_ BK149.out⟩, ⟨by repeat (first | (with_reducible first | exact HB.out | apply ba_ | apply bn_ | apply bd_ | refine below_set ?_ GE148.out | refine below_set ?_ GE149.out) | exact HB.out)⟩⟩
     rw [if_pos c13] at H
     have c13b0 : decide (x25_2 < (y154.length : Int)) = true := decide_eq_true c13
     clear c13
     by_cases c14 : 0 ≤ x25_2
     rotate_left
     ·
      rw [if_neg c14] at H
      exact absurd H (by simp)
     rw [if_pos c14] at H
     have c14b0 : decide (0 ≤ x25_2) = true := decide_eq_true c14
     clear c14
     by_cases c15 : x25_2 < (y154.length : Int)
     rotate_left
     ·
      rw [if_neg c15] at H
      exact absurd H (by simp)
     rw [if_pos c15] at H
     have c15b0 : decide (x25_2 < (y154.length : Int)) = true := decide_eq_true c15
     clear c15
     replace H := Option.bind_eq_some_iff.mp H
     obtain ⟨t158, A160, H⟩ := H
     replace H : ((XNext.f a0_0 a0_1 a0_2 a0_3 a0_4 1 (rdOf false y154 x25_2) x20_1).bind fun t159 => (if (t158 == t159) = true then (iso_triangles.l1 k2 t150 x20_1 (wrap64 ((t150.length : Int) + 1)) x20_1 y154 (y154.length : Int) (wrap64 (x25_2 + 1)) a0_0 a0_1 a0_2 a0_3 a0_4) else (if 0 ≤ x20_1 then (if x20_1 ≤ (t150.length : Int) then ((XClone.f (t150.take (x20_1 : Int).toNat)).bind fun t164 => (if rdOf false y154 x25_2 = true then (if t164.length < 5864062014805 then ((XOf.f (t164 ++ [(⟨(⟨0, 0⟩ : S63), 0⟩ : S65)])).bind fun t170 => (some (t170, 1, true))) else (none)) else ((XOf.f t164).bind fun t173 => (some (t173, 1, true))))) else (none)) else (none)))) = some (r1, r2, r3) := H
     have A16 := Aside0.mk A160
     clear A160
     replace H := Option.bind_eq_some_iff.mp H
     obtain ⟨t159, A170, H⟩ := H
     replace H : (if (t158 == t159) = true then (iso_triangles.l1 k2 t150 x20_1 (wrap64 ((t150.length : Int) + 1)) x20_1 y154 (y154.length : Int) (wrap64 (x25_2 + 1)) a0_0 a0_1 a0_2 a0_3 a0_4) else (if 0 ≤ x20_1 then (if x20_1 ≤ (t150.length : Int) then ((XClone.f (t150.take (x20_1 : Int).toNat)).bind fun t164 => (if rdOf false y154 x25_2 = true then (if t164.length < 5864062014805 then ((XOf.f (t164 ++ [(⟨(⟨0, 0⟩ : S63), 0⟩ : S65)])).bind fun t170 => (some (t170, 1, true))) else (none)) else ((XOf.f t164).bind fun t173 => (some (t173, 1, true))))) else (none)) else (none))) = some (r1, r2, r3) := H
     have A17 := Aside0.mk A170
     clear A170
     by_cases c18 : (t158 == t159) = true
     ·
      rw [if_pos c18] at H
      have c18b0 : (t158 == t159) = true := c18
      (try (have c18b1 : decide (t158 = t159) = true := by simpa using c18))
      (try (have c18b2 : (t158 == t159) = true := by simpa using c18))
      clear c18
      have H' := Aside0.mk H
      clear H
      have p157 : 0 ≤ (x25_2 : Int) := of_decide_eq_true as_
      have q157 : x25_2 < (y154.length : Int) := of_decide_eq_true as_
      obtain ⟨ad157, e157, hx157_0⟩ := Kd.at_bool (Kd.R_reads' HO_23.out).2.2 x25_2 p157 q157
      cases e157
      replace p157 := eq_true p157
      replace q157 := eq_true q157
      try go_wp2
      replace HO_4 := Aside0.mk (Kd.R_drew HO_4.out)
      replace HO_23 := Aside0.mk (Kd.R_drew HO_23.out)
      replace BK148 := Aside0.mk (blk_drew BK148.out)
      replace BK149 := Aside0.mk (blk_drew BK149.out)
      replace HB := Aside0.mk (below_drew1 HB.out)
      refine start_ (n := 9) (S := fun w' => w'.cell? ⟨gb148, 0, none⟩ = some (.int .i64 a0_0) ∧ w'.cell? ⟨gb148, 1, none⟩ = some (.int .u64 a0_1) ∧ w'.cell? ⟨gb148, 2, none⟩ = some (.int .u64 a0_2) ∧ w'.cell? ⟨gb148, 3, none⟩ = some (.int .u64 a0_3) ∧ w'.cell? ⟨gb148, 4, none⟩ = some (.int .u64 a0_4)) (ds := []) (m_ 9 0) (by kernel_rfl) rfl rfl ⟨(blk_cell BK148.out 0).trans rfl, (blk_cell BK148.out 1).trans rfl, (blk_cell BK148.out 2).trans rfl, (blk_cell BK148.out 3).trans rfl, (blk_cell BK148.out 4).trans rfl⟩ (fun hHeld => ?_); refine with_tabW iso_triangles.tab8 iso_triangles.bits8 (fun HT_ HW_ => ?_)
      generalize wr.drew = w19 at HO_4 HO_23 BK148 BK149 HB hHeld ⊢
      refine pq_ 1 (some 30) (m_ 9 2) (h := ?_)
      refine pq_ 2 (some 31) (m_ 9 6) (h := ?_)
      refine pq_ 5 (some 34) (m_ 9 38) (h := ?_)
      refine pq_ 6 (some 35) (m_ 9 102) (h := ?_)
      refine tq5_ 0 (some 29) (m_ 9 103) (h := ?_)
      refine tq5_ 4 (some 33) (m_ 9 119) (h := ?_)
      refine one_ (i := 3) (N := some 32) (m_ 9 127) rfl rfl (one_of HT_.out (by kernel_rfl)) (by decide) (fun K hK => ?_)
      refine goes_ Tryd.func58 (by kernel_rfl) rfl #[.agg #[.int .i64 a0_0, .int .u64 a0_1, .int .u64 a0_2, .int .u64 a0_3, .int .u64 a0_4], .int .i64 0, .bool (rdOf false y154 x25_2), .int .i64 x20_1] (by rfl) rfl rfl ar_ ?_
      with_reducible refine (XNext.calls a0_0 a0_1 a0_2 a0_3 a0_4 0 (rdOf false y154 x25_2) x20_1 t158 _ (by first | with_reducible exact A16.out | (have q_ := A16.out; rw [← Nbq25.out] at q_; exact q_))).mono ?_
      rintro e w20 ⟨rfl, hb⟩
      refine ⟨_, rfl, ?_⟩
      replace HO_4 := Aside0.mk (Kd.R_below (kr_ HO_4.out) hb)
      replace HO_23 := Aside0.mk (Kd.R_below (kr_ HO_23.out) hb)
      replace BK148 := bb_ BK148.out hb
      replace BK149 := bb_ BK149.out hb
      replace HB := Aside0.mk (below_step (hg2_ GE148.out GE149.out) hb)
      (try clear hb)
      (try clear hb2)
      (try clear hk)
      (try clear hi)
      refine hK.out _ _ ⟨(blk_cell BK148.out 0).trans rfl, (blk_cell BK148.out 1).trans rfl, (blk_cell BK148.out 2).trans rfl, (blk_cell BK148.out 3).trans rfl, (blk_cell BK148.out 4).trans rfl⟩ (fun hHeld => ?_)
      clear hK K
      refine norm_ (a' := ?_) ?_ ?_
      rotate_left
      ·
       show Act.put _ (some 32) _ = _
       simp only [puts_]
       rfl
      refine one_ (i := 7) (N := some 36) (m_ 9 255) rfl rfl (one_of HT_.out (by kernel_rfl)) (by decide) (fun K hK => ?_)
      refine goes_ Tryd.func58 (by kernel_rfl) rfl #[.agg #[.int .i64 a0_0, .int .u64 a0_1, .int .u64 a0_2, .int .u64 a0_3, .int .u64 a0_4], .int .i64 1, .bool (rdOf false y154 x25_2), .int .i64 x20_1] (by rfl) rfl rfl ar_ ?_
      with_reducible refine (XNext.calls a0_0 a0_1 a0_2 a0_3 a0_4 1 (rdOf false y154 x25_2) x20_1 t159 _ (by first | with_reducible exact A17.out | (have q_ := A17.out; rw [← Nbq25.out] at q_; exact q_))).mono ?_
      rintro e w21 ⟨rfl, hb⟩
      refine ⟨_, rfl, ?_⟩
      replace HO_4 := Aside0.mk (Kd.R_below (kr_ HO_4.out) hb)
      replace HO_23 := Aside0.mk (Kd.R_below (kr_ HO_23.out) hb)
      replace BK148 := bb_ BK148.out hb
      replace BK149 := bb_ BK149.out hb
      replace HB := Aside0.mk (below_step (hg2_ GE148.out GE149.out) hb)
      (try clear hb)
      (try clear hb2)
      (try clear hk)
      (try clear hi)
      refine hK.out _ _ ⟨(blk_cell BK148.out 0).trans rfl, (blk_cell BK148.out 1).trans rfl, (blk_cell BK148.out 2).trans rfl, (blk_cell BK148.out 3).trans rfl, (blk_cell BK148.out 4).trans rfl⟩ (fun hHeld => ?_)
      clear hK K
      refine norm_ (a' := ?_) ?_ ?_
      rotate_left
      ·
       show Act.put _ (some 36) _ = _
       simp only [puts_]
       rfl
      refine pq_ 8 (some 37) (m_ 9 511) (h := ?_)
      refine done_ (done_of HT_.out (by kernel_rfl)) ?_
      try go_wp2
      go_roundg k2
      case measure => have := HK1.out; have := HK2.out; omega
      case rel => exact ⟨(wrap64 (x25_2 + 1)), (x150001_2), rs_, H', ⟨by have := HK1.out; have := HK2.out; omega⟩, ⟨kr_ HO_4.out⟩, ⟨kr_ HO_23.out⟩, ⟨bk_ BK148.out⟩, ⟨bk_ BK149.out⟩, ⟨by repeat (first | (with_reducible first | exact HB.out | apply ba_ | apply bn_ | apply bd_ | refine below_set ?_ GE148.out | refine below_set ?_ GE149.out) | exact HB.out)⟩⟩
     rw [if_neg c18] at H
     have c18b0 : (t158 == t159) = false := by simpa using c18
     (try (have c18b1 : decide (t158 = t159) = false := by simpa using c18))
     (try (have c18b2 : (t158 == t159) = false := by simpa using c18))
     (try (have c18b3 : ¬ (t158 = t159) := by simpa using c18))
     clear c18
     by_cases c22 : 0 ≤ x20_1
     rotate_left
     ·
      rw [if_neg c22] at H
      exact absurd H (by simp)
     rw [if_pos c22] at H
     have c22b0 := eq_true c22
     have c22b1 : decide (0 ≤ x20_1) = true := decide_eq_true c22
     clear c22
     by_cases c23 : x20_1 ≤ (t150.length : Int)
     rotate_left
     ·
      rw [if_neg c23] at H
      exact absurd H (by simp)
     rw [if_pos c23] at H
     have c23b0 := eq_true c23
     have c23b1 : decide (x20_1 ≤ (t150.length : Int)) = true := decide_eq_true c23
     clear c23
     obtain ⟨y160, hy160⟩ : ∃ y_ : List (S65), y_ = (t150.take (x20_1 : Int).toNat) := ⟨_, rfl⟩
     replace H : ((XClone.f y160).bind fun t164 => (if rdOf false y154 x25_2 = true then (if t164.length < 5864062014805 then ((XOf.f (t164 ++ [(⟨(⟨0, 0⟩ : S63), 0⟩ : S65)])).bind fun t170 => (some (t170, 1, true))) else (none)) else ((XOf.f t164).bind fun t173 => (some (t173, 1, true))))) = some (r1, r2, r3) := by first | (rw [hy160]; with_reducible exact H) | (have H2_ := (Option.bind_some _ _).symm.trans H; rw [hy160]; with_reducible exact H2_) | (have H2_ := (Option.bind_some _ _).symm.trans H; with_reducible exact H2_) | with_reducible exact H | (rw [hy160]; exact H) | exact H
     have Ny160 := Aside0.mk hy160
     clear hy160
     replace H := Option.bind_eq_some_iff.mp H
     obtain ⟨t164, A240, H⟩ := H
     replace H : (if rdOf false y154 x25_2 = true then (if t164.length < 5864062014805 then ((XOf.f (t164 ++ [(⟨(⟨0, 0⟩ : S63), 0⟩ : S65)])).bind fun t170 => (some (t170, 1, true))) else (none)) else ((XOf.f t164).bind fun t173 => (some (t173, 1, true)))) = some (r1, r2, r3) := H
     have A24 := Aside0.mk A240
     clear A240
     obtain ⟨bq25, hbq25⟩ : ∃ b_ : Bool, b_ = (rdOf false y154 x25_2) := ⟨_, rfl⟩
     replace H : (if bq25 = true then (if t164.length < 5864062014805 then ((XOf.f (t164 ++ [(⟨(⟨0, 0⟩ : S63), 0⟩ : S65)])).bind fun t170 => (some (t170, 1, true))) else (none)) else ((XOf.f t164).bind fun t173 => (some (t173, 1, true)))) = some (r1, r2, r3) := by rw [← hbq25] at H; exact H
     have Nbq25 := Aside0.mk hbq25
     clear hbq25
     by_cases c26 : bq25 = true
     rotate_left
     ·
      replace c26 := Bool.eq_false_iff.mpr c26
      subst c26
      have H1 : ((XOf.f t164).bind fun t173 => (some (t173, 1, true))) = some (r1, r2, r3) := by rw [if_neg (show ¬ (false = true) by decide)] at H; exact H
      clear H
      have H := H1
      clear H1
      replace H := Option.bind_eq_some_iff.mp H
      obtain ⟨t173, A400, H⟩ := H
      replace H : (some (t173, 1, true)) = some (r1, r2, r3) := H
      have A40 := Aside0.mk A400
      clear A400
      simp only [Option.some.injEq, Prod.mk.injEq] at H
      obtain ⟨rfl, rfl, rfl⟩ := H
      have p157 : 0 ≤ (x25_2 : Int) := of_decide_eq_true as_
      have q157 : x25_2 < (y154.length : Int) := of_decide_eq_true as_
      obtain ⟨ad157, e157, hx157_0⟩ := Kd.at_bool (Kd.R_reads' HO_23.out).2.2 x25_2 p157 q157
      (try rw [← Nbq25.out] at hx157_0)
      cases e157
      replace p157 := eq_true p157
      replace q157 := eq_true q157
      try go_wp2
      replace HO_4 := Aside0.mk (Kd.R_drew HO_4.out)
      replace HO_23 := Aside0.mk (Kd.R_drew HO_23.out)
      replace BK148 := Aside0.mk (blk_drew BK148.out)
      replace BK149 := Aside0.mk (blk_drew BK149.out)
      replace HB := Aside0.mk (below_drew1 HB.out)
      refine start_ (n := 9) (S := fun w' => w'.cell? ⟨gb148, 0, none⟩ = some (.int .i64 a0_0) ∧ w'.cell? ⟨gb148, 1, none⟩ = some (.int .u64 a0_1) ∧ w'.cell? ⟨gb148, 2, none⟩ = some (.int .u64 a0_2) ∧ w'.cell? ⟨gb148, 3, none⟩ = some (.int .u64 a0_3) ∧ w'.cell? ⟨gb148, 4, none⟩ = some (.int .u64 a0_4)) (ds := []) (m_ 9 0) (by kernel_rfl) rfl rfl ⟨(blk_cell BK148.out 0).trans rfl, (blk_cell BK148.out 1).trans rfl, (blk_cell BK148.out 2).trans rfl, (blk_cell BK148.out 3).trans rfl, (blk_cell BK148.out 4).trans rfl⟩ (fun hHeld => ?_); refine with_tabW iso_triangles.tab8 iso_triangles.bits8 (fun HT_ HW_ => ?_)
      generalize wr.drew = w41 at HO_4 HO_23 BK148 BK149 HB hHeld ⊢
      refine pq_ 1 (some 30) (m_ 9 2) (h := ?_)
      refine pq_ 2 (some 31) (m_ 9 6) (h := ?_)
      refine pq_ 5 (some 34) (m_ 9 38) (h := ?_)
      refine pq_ 6 (some 35) (m_ 9 102) (h := ?_)
      refine tq5_ 0 (some 29) (m_ 9 103) (h := ?_)
      refine tq5_ 4 (some 33) (m_ 9 119) (h := ?_)
      refine one_ (i := 3) (N := some 32) (m_ 9 127) rfl rfl (one_of HT_.out (by kernel_rfl)) (by decide) (fun K hK => ?_)
      refine goes_ Tryd.func58 (by kernel_rfl) rfl #[.agg #[.int .i64 a0_0, .int .u64 a0_1, .int .u64 a0_2, .int .u64 a0_3, .int .u64 a0_4], .int .i64 0, .bool false, .int .i64 x20_1] (by rfl) rfl rfl ar_ ?_
      with_reducible refine (XNext.calls a0_0 a0_1 a0_2 a0_3 a0_4 0 false x20_1 t158 _ (by first | with_reducible exact A16.out | (have q_ := A16.out; rw [← Nbq25.out] at q_; exact q_))).mono ?_
      rintro e w42 ⟨rfl, hb⟩
      refine ⟨_, rfl, ?_⟩
      replace HO_4 := Aside0.mk (Kd.R_below (kr_ HO_4.out) hb)
      replace HO_23 := Aside0.mk (Kd.R_below (kr_ HO_23.out) hb)
      replace BK148 := bb_ BK148.out hb
      replace BK149 := bb_ BK149.out hb
      replace HB := Aside0.mk (below_step (hg2_ GE148.out GE149.out) hb)
      (try clear hb)
      (try clear hb2)
      (try clear hk)
      (try clear hi)
      refine hK.out _ _ ⟨(blk_cell BK148.out 0).trans rfl, (blk_cell BK148.out 1).trans rfl, (blk_cell BK148.out 2).trans rfl, (blk_cell BK148.out 3).trans rfl, (blk_cell BK148.out 4).trans rfl⟩ (fun hHeld => ?_)
      clear hK K
      refine norm_ (a' := ?_) ?_ ?_
      rotate_left
      ·
       show Act.put _ (some 32) _ = _
       simp only [puts_]
       rfl
      refine one_ (i := 7) (N := some 36) (m_ 9 255) rfl rfl (one_of HT_.out (by kernel_rfl)) (by decide) (fun K hK => ?_)
      refine goes_ Tryd.func58 (by kernel_rfl) rfl #[.agg #[.int .i64 a0_0, .int .u64 a0_1, .int .u64 a0_2, .int .u64 a0_3, .int .u64 a0_4], .int .i64 1, .bool false, .int .i64 x20_1] (by rfl) rfl rfl ar_ ?_
      with_reducible refine (XNext.calls a0_0 a0_1 a0_2 a0_3 a0_4 1 false x20_1 t159 _ (by first | with_reducible exact A17.out | (have q_ := A17.out; rw [← Nbq25.out] at q_; exact q_))).mono ?_
      rintro e w43 ⟨rfl, hb⟩
      refine ⟨_, rfl, ?_⟩
      replace HO_4 := Aside0.mk (Kd.R_below (kr_ HO_4.out) hb)
      replace HO_23 := Aside0.mk (Kd.R_below (kr_ HO_23.out) hb)
      replace BK148 := bb_ BK148.out hb
      replace BK149 := bb_ BK149.out hb
      replace HB := Aside0.mk (below_step (hg2_ GE148.out GE149.out) hb)
      (try clear hb)
      (try clear hb2)
      (try clear hk)
      (try clear hi)
      refine hK.out _ _ ⟨(blk_cell BK148.out 0).trans rfl, (blk_cell BK148.out 1).trans rfl, (blk_cell BK148.out 2).trans rfl, (blk_cell BK148.out 3).trans rfl, (blk_cell BK148.out 4).trans rfl⟩ (fun hHeld => ?_)
      clear hK K
      refine norm_ (a' := ?_) ?_ ?_
      rotate_left
      ·
       show Act.put _ (some 36) _ = _
       simp only [puts_]
       rfl
      refine pq_ 8 (some 37) (m_ 9 511) (h := ?_)
      refine done_ (done_of HT_.out (by kernel_rfl)) ?_
      have q44 : (x20_1 : Int) ≤ ((t150.length : Int) : Int) := of_decide_eq_true as_
      obtain ⟨i044, hi044, _, hsz44, _⟩ := info_parts info65
      have hroom44 : t150.length ≤ co8 := (Kd.R_reads' HO_4.out).2.1
      have hC44 : Kd.C k65 _ Ao8 t150.length t150 := (Kd.R_reads' HO_4.out).2.2
      have hcut44 := cut_to (P := Tryd.prog) 34 65 .i64 Tryd.underlying34 hi044 Ao8 t150.length co8 x20_1 (of_decide_eq_true as_) q44 hroom44
      have hr44 := Kd.C_take (m := (x20_1 : Int).toNat) hC44 (by omega)
      have hy44 : y160.length = (x20_1 : Int).toNat := (by rw [Ny160.out, List.length_take]; omega)
      rw [← Ny160.out] at hr44
      rw [← hy44] at hcut44
      have HR163 := Aside0.mk hr44
      have HC163 := Aside0.mk (show y160.length ≤ co8 from by omega)
      clear hr44 hC44 hroom44 hi044 hsz44
      have KY44 := Aside0.mk hy44
      clear hy44
      have KL44 := Aside0.mk (show (x20_1 : Int).toNat ≤ t150.length from by omega)
      replace q44 := eq_true q44
      try go_wp2_with (first | ((with_reducible refine gate_callee (f := 73) rfl ?_); refine goesL_ (some 41) rfl rfl Tryd.func73 (by kernel_rfl) rfl #[.slice Ao8 y160.length co8] rfl ar_ ?_; (with_reducible refine (XClone.calls _ _ y160 t164 _ ?side1 ?side2 (by first | with_reducible exact A24.out | (have q_ := A24.out; rw [← Nbq25.out] at q_; exact q_))).mono ?_); (case side1 => repeat (first | exact (by repeat (first | (with_reducible exact HR163.out) | (with_reducible refine Kd.C_alloc ?_ _) | (with_reducible refine Kd.C_drewN ?_ _) | (with_reducible refine Kd.C_drew ?_) | exact HR163.out)) | (with_reducible refine Kd.C_alloc ?_ _) | (with_reducible refine Kd.C_drewN ?_ _) | (with_reducible refine Kd.C_drew ?_))); (case side2 => exact HC163.out); rintro e w45 ⟨v165, rfl, ho0, hb⟩; refine ⟨_, rfl, ?_⟩; have HO166 := Aside0.mk (Kd.R_lower (Kd.R_new' ho0 (Kd.R_lt (kr_ HO_4.out))) (below_size (hg2_ GE148.out GE149.out))); replace HO_4 := Aside0.mk (Kd.R_elder' (kr_ HO_4.out) (Kd.R_base ho0) hb); replace HO_23 := Aside0.mk (Kd.R_below (kr_ HO_23.out) hb); replace BK148 := bb_ BK148.out hb; replace BK149 := bb_ BK149.out hb; replace HR163 := Aside0.mk (Kd.C_below (by repeat (first | (with_reducible exact HR163.out) | (with_reducible refine Kd.C_alloc ?_ _) | (with_reducible refine Kd.C_drewN ?_ _) | (with_reducible refine Kd.C_drew ?_) | exact HR163.out)) hb); replace HB := Aside0.mk (below_step (hg2_ GE148.out GE149.out) hb); (try clear hb); (try clear hb2); (try clear hk); (try clear hi); (try clear ho0); obtain ⟨Ao46, co46, eo46⟩ := Kd.R_slice HO166.out; subst eo46) | ((with_reducible refine gate_callee (f := 37) rfl ?_); refine goesL_ (some 48) rfl rfl Tryd.func37 (by kernel_rfl) rfl #[.slice Ao46 t164.length co46] rfl ar_ ?_; (with_reducible refine (XOf.calls _ _ t164 t173 _ ?side1 ?side2 (by first | with_reducible exact A40.out | (have q_ := A40.out; rw [← Nbq25.out] at q_; exact q_))).mono ?_); (case side1 => repeat (first | exact (Kd.R_reads' HO166.out).2.2 | (with_reducible refine Kd.C_alloc ?_ _) | (with_reducible refine Kd.C_drewN ?_ _) | (with_reducible refine Kd.C_drew ?_))); (case side2 => exact (Kd.R_reads' HO166.out).2.1); rintro e w47 ⟨v174, rfl, ho0, hb⟩; refine ⟨_, rfl, ?_⟩; have HO175 := Aside0.mk (Kd.R_lower (Kd.R_new' (Kd.R_new' ho0 (Kd.R_lt (kr_ HO_4.out))) (Kd.R_lt (kr_ HO166.out))) (below_size (hg2_ GE148.out GE149.out))); replace HO_4 := Aside0.mk (Kd.R_elder' (kr_ HO_4.out) (Kd.R_base ho0) hb); replace HO_23 := Aside0.mk (Kd.R_below (kr_ HO_23.out) hb); replace HO166 := Aside0.mk (Kd.R_elder' (kr_ HO166.out) (Kd.R_base ho0) hb); replace BK148 := bb_ BK148.out hb; replace BK149 := bb_ BK149.out hb; replace HR163 := Aside0.mk (Kd.C_below (by repeat (first | (with_reducible exact HR163.out) | (with_reducible refine Kd.C_alloc ?_ _) | (with_reducible refine Kd.C_drewN ?_ _) | (with_reducible refine Kd.C_drew ?_) | exact HR163.out)) hb); replace HB := Aside0.mk (below_step (hg2_ GE148.out GE149.out) hb); (try clear hb); (try clear hb2); (try clear hk); (try clear hi); (try clear ho0); obtain ⟨Ao48, co48, eo48⟩ := Kd.R_slice HO175.out; subst eo48; have hnb49 := NB149_148.out; have hnc49 := NB148_149.out; obtain ⟨hcz50_0, hcz50_1⟩ := cz2_ BK149.out; obtain ⟨hfz50_0, hfz50_1⟩ := fz2_ BK149.out))
      refine bodyPost_ret (results_ct rfl _ _ gb149 37 #[.slice Ao48 t173.length co48, .int .i64 1] (0, 0) _ rfl (by (with_reducible repeat (first | apply bN_ | apply bD_ | apply bA_)); refine blk_put (cs := #[.slice Ao48 t173.length co48, .int .i64 x150001_2]) ?_ 1 _ rfl; (with_reducible repeat (first | apply bN_ | apply bD_ | apply bA_)); refine blk_put (cs := #[.slice none 0 0, .int .i64 x150001_2]) ?_ 0 _ rfl; (with_reducible repeat (first | apply bN_ | apply bD_ | apply bA_)); exact BK149.out) Tryd.underlying37 rfl (by kernel_rfl)) rfl ?_
      exact ⟨_, by first | rfl | (simp [errW_none, errW_some] <;> rfl) | (simp [*, errW_none, errW_some] <;> rfl), by (with_reducible repeat (first | apply Kd.R_alloc | apply Kd.R_drewN | apply Kd.R_drew)); exact Kd.R_mono (Kd.R_far (p := ⟨gb149, 1, none⟩) (Kd.R_far (p := ⟨gb149, 0, none⟩) (Kd.R_types HO175.out BK149.out (by decide)) (fun _ hk => hk.2) (.slice Ao48 t173.length co48)) (fun _ hk => hk.2) (.int .i64 1)) (fun _ hk => trivial), by repeat (first | (with_reducible first | exact HB.out | apply ba_ | apply bn_ | apply bd_ | refine below_set ?_ GE148.out | refine below_set ?_ GE149.out) | exact HB.out)⟩
     subst c26
     have H1 : (if t164.length < 5864062014805 then ((XOf.f (t164 ++ [(⟨(⟨0, 0⟩ : S63), 0⟩ : S65)])).bind fun t170 => (some (t170, 1, true))) else (none)) = some (r1, r2, r3) := by rw [if_pos rfl] at H; exact H
     clear H
     have H := H1
     clear H1
     by_cases c27 : t164.length < 5864062014805
     rotate_left
     ·
      rw [if_neg c27] at H
      exact absurd H (by simp)
     rw [if_pos c27] at H
     have LMc27 := Aside0.mk c27
     clear c27
     obtain ⟨y167, hy167⟩ : ∃ y_ : List (S65), y_ = (t164 ++ [(⟨(⟨0, 0⟩ : S63), 0⟩ : S65)]) := ⟨_, rfl⟩
     replace H : ((XOf.f y167).bind fun t170 => (some (t170, 1, true))) = some (r1, r2, r3) := by first | (rw [hy167]; with_reducible exact H) | (have H2_ := (Option.bind_some _ _).symm.trans H; rw [hy167]; with_reducible exact H2_) | (have H2_ := (Option.bind_some _ _).symm.trans H; with_reducible exact H2_) | with_reducible exact H | (rw [hy167]; exact H) | exact H
     have Ny167 := Aside0.mk hy167
     clear hy167
     replace H := Option.bind_eq_some_iff.mp H
     obtain ⟨t170, A280, H⟩ := H
     replace H : (some (t170, 1, true)) = some (r1, r2, r3) := H
     have A28 := Aside0.mk A280
     clear A280
     simp only [Option.some.injEq, Prod.mk.injEq] at H
     obtain ⟨rfl, rfl, rfl⟩ := H
     have p157 : 0 ≤ (x25_2 : Int) := of_decide_eq_true as_
     have q157 : x25_2 < (y154.length : Int) := of_decide_eq_true as_
     obtain ⟨ad157, e157, hx157_0⟩ := Kd.at_bool (Kd.R_reads' HO_23.out).2.2 x25_2 p157 q157
     (try rw [← Nbq25.out] at hx157_0)
     cases e157
     replace p157 := eq_true p157
     replace q157 := eq_true q157
     try go_wp2
     replace HO_4 := Aside0.mk (Kd.R_drew HO_4.out)
     replace HO_23 := Aside0.mk (Kd.R_drew HO_23.out)
     replace BK148 := Aside0.mk (blk_drew BK148.out)
     replace BK149 := Aside0.mk (blk_drew BK149.out)
     replace HB := Aside0.mk (below_drew1 HB.out)
     refine start_ (n := 9) (S := fun w' => w'.cell? ⟨gb148, 0, none⟩ = some (.int .i64 a0_0) ∧ w'.cell? ⟨gb148, 1, none⟩ = some (.int .u64 a0_1) ∧ w'.cell? ⟨gb148, 2, none⟩ = some (.int .u64 a0_2) ∧ w'.cell? ⟨gb148, 3, none⟩ = some (.int .u64 a0_3) ∧ w'.cell? ⟨gb148, 4, none⟩ = some (.int .u64 a0_4)) (ds := []) (m_ 9 0) (by kernel_rfl) rfl rfl ⟨(blk_cell BK148.out 0).trans rfl, (blk_cell BK148.out 1).trans rfl, (blk_cell BK148.out 2).trans rfl, (blk_cell BK148.out 3).trans rfl, (blk_cell BK148.out 4).trans rfl⟩ (fun hHeld => ?_); refine with_tabW iso_triangles.tab8 iso_triangles.bits8 (fun HT_ HW_ => ?_)
     generalize wr.drew = w29 at HO_4 HO_23 BK148 BK149 HB hHeld ⊢
     refine pq_ 1 (some 30) (m_ 9 2) (h := ?_)
     refine pq_ 2 (some 31) (m_ 9 6) (h := ?_)
     refine pq_ 5 (some 34) (m_ 9 38) (h := ?_)
     refine pq_ 6 (some 35) (m_ 9 102) (h := ?_)
     refine tq5_ 0 (some 29) (m_ 9 103) (h := ?_)
     refine tq5_ 4 (some 33) (m_ 9 119) (h := ?_)
     refine one_ (i := 3) (N := some 32) (m_ 9 127) rfl rfl (one_of HT_.out (by kernel_rfl)) (by decide) (fun K hK => ?_)
     refine goes_ Tryd.func58 (by kernel_rfl) rfl #[.agg #[.int .i64 a0_0, .int .u64 a0_1, .int .u64 a0_2, .int .u64 a0_3, .int .u64 a0_4], .int .i64 0, .bool true, .int .i64 x20_1] (by rfl) rfl rfl ar_ ?_
     with_reducible refine (XNext.calls a0_0 a0_1 a0_2 a0_3 a0_4 0 true x20_1 t158 _ (by first | with_reducible exact A16.out | (have q_ := A16.out; rw [← Nbq25.out] at q_; exact q_))).mono ?_
     rintro e w30 ⟨rfl, hb⟩
     refine ⟨_, rfl, ?_⟩
     replace HO_4 := Aside0.mk (Kd.R_below (kr_ HO_4.out) hb)
     replace HO_23 := Aside0.mk (Kd.R_below (kr_ HO_23.out) hb)
     replace BK148 := bb_ BK148.out hb
     replace BK149 := bb_ BK149.out hb
     replace HB := Aside0.mk (below_step (hg2_ GE148.out GE149.out) hb)
     (try clear hb)
     (try clear hb2)
     (try clear hk)
     (try clear hi)
     refine hK.out _ _ ⟨(blk_cell BK148.out 0).trans rfl, (blk_cell BK148.out 1).trans rfl, (blk_cell BK148.out 2).trans rfl, (blk_cell BK148.out 3).trans rfl, (blk_cell BK148.out 4).trans rfl⟩ (fun hHeld => ?_)
     clear hK K
     refine norm_ (a' := ?_) ?_ ?_
     rotate_left
     ·
      show Act.put _ (some 32) _ = _
      simp only [puts_]
      rfl
     refine one_ (i := 7) (N := some 36) (m_ 9 255) rfl rfl (one_of HT_.out (by kernel_rfl)) (by decide) (fun K hK => ?_)
     refine goes_ Tryd.func58 (by kernel_rfl) rfl #[.agg #[.int .i64 a0_0, .int .u64 a0_1, .int .u64 a0_2, .int .u64 a0_3, .int .u64 a0_4], .int .i64 1, .bool true, .int .i64 x20_1] (by rfl) rfl rfl ar_ ?_
     with_reducible refine (XNext.calls a0_0 a0_1 a0_2 a0_3 a0_4 1 true x20_1 t159 _ (by first | with_reducible exact A17.out | (have q_ := A17.out; rw [← Nbq25.out] at q_; exact q_))).mono ?_
     rintro e w31 ⟨rfl, hb⟩
     refine ⟨_, rfl, ?_⟩
     replace HO_4 := Aside0.mk (Kd.R_below (kr_ HO_4.out) hb)
     replace HO_23 := Aside0.mk (Kd.R_below (kr_ HO_23.out) hb)
     replace BK148 := bb_ BK148.out hb
     replace BK149 := bb_ BK149.out hb
     replace HB := Aside0.mk (below_step (hg2_ GE148.out GE149.out) hb)
     (try clear hb)
     (try clear hb2)
     (try clear hk)
     (try clear hi)
     refine hK.out _ _ ⟨(blk_cell BK148.out 0).trans rfl, (blk_cell BK148.out 1).trans rfl, (blk_cell BK148.out 2).trans rfl, (blk_cell BK148.out 3).trans rfl, (blk_cell BK148.out 4).trans rfl⟩ (fun hHeld => ?_)
     clear hK K
     refine norm_ (a' := ?_) ?_ ?_
     rotate_left
     ·
      show Act.put _ (some 36) _ = _
      simp only [puts_]
      rfl
     refine pq_ 8 (some 37) (m_ 9 511) (h := ?_)
     refine done_ (done_of HT_.out (by kernel_rfl)) ?_
     have q32 : (x20_1 : Int) ≤ ((t150.length : Int) : Int) := of_decide_eq_true as_
     obtain ⟨i032, hi032, _, hsz32, _⟩ := info_parts info65
     have hroom32 : t150.length ≤ co8 := (Kd.R_reads' HO_4.out).2.1
     have hC32 : Kd.C k65 _ Ao8 t150.length t150 := (Kd.R_reads' HO_4.out).2.2
     have hcut32 := cut_to (P := Tryd.prog) 34 65 .i64 Tryd.underlying34 hi032 Ao8 t150.length co8 x20_1 (of_decide_eq_true as_) q32 hroom32
     have hr32 := Kd.C_take (m := (x20_1 : Int).toNat) hC32 (by omega)
     have hy32 : y160.length = (x20_1 : Int).toNat := (by rw [Ny160.out, List.length_take]; omega)
     rw [← Ny160.out] at hr32
     rw [← hy32] at hcut32
     have HR163 := Aside0.mk hr32
     have HC163 := Aside0.mk (show y160.length ≤ co8 from by omega)
     clear hr32 hC32 hroom32 hi032 hsz32
     have KY32 := Aside0.mk hy32
     clear hy32
     have KL32 := Aside0.mk (show (x20_1 : Int).toNat ≤ t150.length from by omega)
     replace q32 := eq_true q32
     try go_wp2_with (first | ((with_reducible refine gate_callee (f := 73) rfl ?_); refine goesL_ (some 41) rfl rfl Tryd.func73 (by kernel_rfl) rfl #[.slice Ao8 y160.length co8] rfl ar_ ?_; (with_reducible refine (XClone.calls _ _ y160 t164 _ ?side1 ?side2 (by first | with_reducible exact A24.out | (have q_ := A24.out; rw [← Nbq25.out] at q_; exact q_))).mono ?_); (case side1 => repeat (first | exact (by repeat (first | (with_reducible exact HR163.out) | (with_reducible refine Kd.C_alloc ?_ _) | (with_reducible refine Kd.C_drewN ?_ _) | (with_reducible refine Kd.C_drew ?_) | exact HR163.out)) | (with_reducible refine Kd.C_alloc ?_ _) | (with_reducible refine Kd.C_drewN ?_ _) | (with_reducible refine Kd.C_drew ?_))); (case side2 => exact HC163.out); rintro e w33 ⟨v165, rfl, ho0, hb⟩; refine ⟨_, rfl, ?_⟩; have HO166 := Aside0.mk (Kd.R_lower (Kd.R_new' ho0 (Kd.R_lt (kr_ HO_4.out))) (below_size (hg2_ GE148.out GE149.out))); replace HO_4 := Aside0.mk (Kd.R_elder' (kr_ HO_4.out) (Kd.R_base ho0) hb); replace HO_23 := Aside0.mk (Kd.R_below (kr_ HO_23.out) hb); replace BK148 := bb_ BK148.out hb; replace BK149 := bb_ BK149.out hb; replace HR163 := Aside0.mk (Kd.C_below (by repeat (first | (with_reducible exact HR163.out) | (with_reducible refine Kd.C_alloc ?_ _) | (with_reducible refine Kd.C_drewN ?_ _) | (with_reducible refine Kd.C_drew ?_) | exact HR163.out)) hb); replace HB := Aside0.mk (below_step (hg2_ GE148.out GE149.out) hb); (try clear hb); (try clear hb2); (try clear hk); (try clear hi); (try clear ho0)) | ((with_reducible refine gate_builtin (b := .append) (xs := #[.tmp 43, .tmp 45]) rfl ?_); at_builtin; refine Kd.R_append k65 (w0 := w) w.heap.size rfl (.tmp 43) (.tmp 45) 34 65 (.agg #[(.int .i64 0), (.int .i64 0), (.int .i64 0)]) 24 rfl Tryd.underlying34 info65 rfl (by decide) (by omega) v165 t164 (⟨(⟨0, 0⟩ : S63), 0⟩ : S65) [.int .i64 0, .int .i64 0, .int .i64 0] (fun k_ => some k_ ≠ (.slice Ao8 t150.length co8 : Value).ownBlock) (fun _ => False) rfl rfl ?aP (fun _ hk => hk.elim) ?aF ?aO ?aB ?aS ?aL ?_; (case aP => exact k65_mkM _ _ _ (⟨(⟨0, 0⟩ : S63), 0⟩ : S65)); (case aB => exact (hg2_ GE148.out GE149.out)); (case aF => exact (fun k_ hk => Kd.fresh' (Kd.R_lt (kr_ HO_4.out)) k_ hk)); (case aO => exact (by (with_reducible repeat (first | apply Kd.R_alloc | apply Kd.R_drewN | apply Kd.R_drew)); exact Kd.R_mono HO166.out (fun _ hk => hk.2))); (case aS => exact (below_size (hg2_ GE148.out GE149.out))); (case aL => have := LMc27.out; omega); intro v168 w34 ho hb hg hat; rw [← Ny167.out] at ho; have HO169 := Aside0.mk (ho); replace HO_23 := Aside0.mk (Kd.R_over' (kr_ HO_23.out) (Kd.R_typed (kr_ HO166.out)) (by decide) hg); replace BK148 := Aside0.mk (blk_grown (g := gb148) (o := .cells #[.int .i64 a0_0, .int .u64 a0_1, .int .u64 a0_2, .int .u64 a0_3, .int .u64 a0_4] 29 (0, 0)) (bk_ BK148.out) hg (Kd.R_ne HO166.out BK148.out (by decide))); replace BK149 := Aside0.mk (blk_grown (g := gb149) (o := .cells #[.slice none 0 0, .int .i64 x150001_2] 37 (0, 0)) (bk_ BK149.out) hg (Kd.R_ne HO166.out BK149.out (by decide))); replace HR163 := Aside0.mk ((show Kd.C k65 w34 Ao8 y160.length y160 from by rw [Ny160.out]; exact Kd.C_take (m := (x20_1 : Int).toNat) ((Kd.R_reads' (Kd.R_after (ok := (fun _ => True)) (kr_ HO_4.out) hg hat)).2.2) KL32.out)); replace HO_4 := Aside0.mk (Kd.R_after (ok := (fun _ => True)) (kr_ HO_4.out) hg hat); replace HB := Aside0.mk (hb); clear HO166; clear ho hb hg hat; obtain ⟨Ao35, co35, eo35⟩ := Kd.R_slice HO169.out; subst eo35) | ((with_reducible refine gate_callee (f := 37) rfl ?_); refine goesL_ (some 48) rfl rfl Tryd.func37 (by kernel_rfl) rfl #[.slice Ao35 y167.length co35] rfl ar_ ?_; (with_reducible refine (XOf.calls _ _ y167 t170 _ ?side1 ?side2 (by first | with_reducible exact A28.out | (have q_ := A28.out; rw [← Nbq25.out] at q_; exact q_))).mono ?_); (case side1 => repeat (first | exact (Kd.R_reads' HO169.out).2.2 | (with_reducible refine Kd.C_alloc ?_ _) | (with_reducible refine Kd.C_drewN ?_ _) | (with_reducible refine Kd.C_drew ?_))); (case side2 => exact (Kd.R_reads' HO169.out).2.1); rintro e w36 ⟨v171, rfl, ho0, hb⟩; refine ⟨_, rfl, ?_⟩; have HO172 := Aside0.mk (Kd.R_lower (Kd.R_new' (Kd.R_new' ho0 (Kd.R_lt (kr_ HO_4.out))) (Kd.R_lt (kr_ HO169.out))) (below_size (hg2_ GE148.out GE149.out))); replace HO_4 := Aside0.mk (Kd.R_elder' (kr_ HO_4.out) (Kd.R_base ho0) hb); replace HO_23 := Aside0.mk (Kd.R_below (kr_ HO_23.out) hb); replace HO169 := Aside0.mk (Kd.R_elder' (kr_ HO169.out) (Kd.R_base ho0) hb); replace BK148 := bb_ BK148.out hb; replace BK149 := bb_ BK149.out hb; replace HR163 := Aside0.mk (Kd.C_below (by repeat (first | (with_reducible exact HR163.out) | (with_reducible refine Kd.C_alloc ?_ _) | (with_reducible refine Kd.C_drewN ?_ _) | (with_reducible refine Kd.C_drew ?_) | exact HR163.out)) hb); replace HB := Aside0.mk (below_step (hg2_ GE148.out GE149.out) hb); (try clear hb); (try clear hb2); (try clear hk); (try clear hi); (try clear ho0); obtain ⟨Ao37, co37, eo37⟩ := Kd.R_slice HO172.out; subst eo37; have hnb38 := NB149_148.out; have hnc38 := NB148_149.out; obtain ⟨hcz39_0, hcz39_1⟩ := cz2_ BK149.out; obtain ⟨hfz39_0, hfz39_1⟩ := fz2_ BK149.out))
     refine bodyPost_ret (results_ct rfl _ _ gb149 37 #[.slice Ao37 t170.length co37, .int .i64 1] (0, 0) _ rfl (by (with_reducible repeat (first | apply bN_ | apply bD_ | apply bA_)); refine blk_put (cs := #[.slice Ao37 t170.length co37, .int .i64 x150001_2]) ?_ 1 _ rfl; (with_reducible repeat (first | apply bN_ | apply bD_ | apply bA_)); refine blk_put (cs := #[.slice none 0 0, .int .i64 x150001_2]) ?_ 0 _ rfl; (with_reducible repeat (first | apply bN_ | apply bD_ | apply bA_)); exact BK149.out) Tryd.underlying37 rfl (by kernel_rfl)) rfl ?_
     exact ⟨_, by first | rfl | (simp [errW_none, errW_some] <;> rfl) | (simp [*, errW_none, errW_some] <;> rfl), by (with_reducible repeat (first | apply Kd.R_alloc | apply Kd.R_drewN | apply Kd.R_drew)); exact Kd.R_mono (Kd.R_far (p := ⟨gb149, 1, none⟩) (Kd.R_far (p := ⟨gb149, 0, none⟩) (Kd.R_types HO172.out BK149.out (by decide)) (fun _ hk => hk.2) (.slice Ao37 t170.length co37)) (fun _ hk => hk.2) (.int .i64 1)) (fun _ hk => trivial), by repeat (first | (with_reducible first | exact HB.out | apply ba_ | apply bn_ | apply bd_ | refine below_set ?_ GE148.out | refine below_set ?_ GE149.out) | exact HB.out)⟩
def iso_Check.f (k : Nat) (a0_0 : Int) (a0_1 : Int) (a0_2 : Int) (a0_3 : Int) (a0_4 : Int) : Option ((List (S65)) × Int × Bool × Option Int) := (XTCheck.f a0_0 a0_1 a0_2 a0_3 a0_4).bind fun t178 => (if t178.isNone = true then (if a0_0 = 1 then ((iso_hexes.f k a0_0 a0_1 a0_2 a0_3 a0_4).bind fun bt180 => (some (bt180.1, bt180.2.1, bt180.2.2, none))) else ((iso_triangles.f k a0_0 a0_1 a0_2 a0_3 a0_4).bind fun bt186 => (some (bt186.1, bt186.2.1, bt186.2.2, none)))) else (some (([] : List (S65)), 0, false, some (t178.getD 0))))
set_option maxHeartbeats 8000000 in
set_option maxRecDepth 100000 in
theorem iso_Check.calls (k : Nat) (a0_0 : Int) (a0_1 : Int) (a0_2 : Int) (a0_3 : Int) (a0_4 : Int) (r1 : List (S65)) (r2 : Int) (r3 : Bool) (r4 : Option Int) (w : World) (hGSix : Six w) (h : iso_Check.f k a0_0 a0_1 a0_2 a0_3 a0_4 = some (r1, r2, r3, r4)) :
  Calls Tryd.prog 17 #[.agg #[.int .i64 a0_0, .int .u64 a0_1, .int .u64 a0_2, .int .u64 a0_3, .int .u64 a0_4]] w fun e w' => ∃ v0_ : Value, e = .returned (.tuple #[.agg #[v0_, .int .i64 r2], .bool r3, errW r4]) ∧ Kd.R k65 65 w' w.heap.size (fun _ => True) v0_ r1 ∧ Below w.heap.size w w' := by
 have hu29 := Tryd.underlying29
 have hu37 := Tryd.underlying37
 have hu39 := Tryd.underlying39
 have hu87 := Tryd.underlying87
 have HB := Aside0.mk (Below.refl w.heap.size w)
 have HGSix := Aside0.mk hGSix
 clear hGSix
 have H : ((XTCheck.f a0_0 a0_1 a0_2 a0_3 a0_4).bind fun t178 => (if t178.isNone = true then (if a0_0 = 1 then ((iso_hexes.f k a0_0 a0_1 a0_2 a0_3 a0_4).bind fun bt180 => (some (bt180.1, bt180.2.1, bt180.2.2, none))) else ((iso_triangles.f k a0_0 a0_1 a0_2 a0_3 a0_4).bind fun bt186 => (some (bt186.1, bt186.2.1, bt186.2.2, none)))) else (some (([] : List (S65)), 0, false, some (t178.getD 0))))) = some (r1, r2, r3, r4) := h
 clear h
 replace H := Option.bind_eq_some_iff.mp H
 obtain ⟨t178, A20, H⟩ := H
 replace H : (if t178.isNone = true then (if a0_0 = 1 then ((iso_hexes.f k a0_0 a0_1 a0_2 a0_3 a0_4).bind fun bt180 => (some (bt180.1, bt180.2.1, bt180.2.2, none))) else ((iso_triangles.f k a0_0 a0_1 a0_2 a0_3 a0_4).bind fun bt186 => (some (bt186.1, bt186.2.1, bt186.2.2, none)))) else (some (([] : List (S65)), 0, false, some (t178.getD 0)))) = some (r1, r2, r3, r4) := H
 have A2 := Aside0.mk A20
 clear A20
 rcases t178 with _ | q179
 rotate_left
 ·
  have H1 : (some (([] : List (S65)), 0, false, some q179)) = some (r1, r2, r3, r4) := by rw [if_neg (show ¬ (some q179).isNone = true by simp)] at H; exact H
  clear H
  have H := H1
  clear H1
  try simp only [errW_none, errW_some]
  simp only [Option.some.injEq, Prod.mk.injEq] at H
  obtain ⟨rfl, rfl, rfl, rfl⟩ := H
  go_enter Tryd.func17, Tryd.ntmps17
  go_wp2_with (first | ((with_reducible refine gate_dst (N := 1) rfl ?_); refine bx_ 1 #[.int .i64 a0_0, .int .u64 a0_1, .int .u64 a0_2, .int .u64 a0_3, .int .u64 a0_4] 29 ?_; intro gb176 hg w32 hbox hb; have BK176 := Aside0.mk (hbox); have GW176 := Aside0.mk ((by rw [hg]; exact (below_size hb_) : w.heap.size ≤ gb176)); have GE176 := GW176; replace HB := Aside0.mk (below_step hb_ hb); clear hb hbox hg) | ((with_reducible refine gate_dst (N := 2) rfl ?_); refine bx_ 2 #[.slice none 0 0, .int .i64 0] 37 ?_; intro gb177 hg w33 hbox hb; have BK177 := Aside0.mk (hbox); have GW177 := Aside0.mk ((by rw [hg]; exact (below_size (hg_ GE176.out)) : w.heap.size ≤ gb177)); have GE177 := GW177; have NB176_177 := Aside0.mk ((by rw [hg]; exact ne1_ BK176.out : gb176 ≠ gb177)); have NB177_176 := Aside0.mk ((by rw [hg]; exact ne2_ BK176.out : gb177 ≠ gb176)); replace BK176 := bb_ BK176.out hb; replace HB := Aside0.mk (below_step (hg_ GE176.out) hb); clear hb hbox hg; have hnb34 := NB176_177.out; have hnc34 := NB177_176.out; obtain ⟨hcz35_0, hcz35_1, hcz35_2, hcz35_3, hcz35_4⟩ := cz5_ BK176.out; obtain ⟨hfz35_0, hfz35_1, hfz35_2, hfz35_3, hfz35_4⟩ := fz5_ BK176.out) | ((with_reducible refine gate_callee (f := 53) rfl ?_); refine goesL_ (some 11) rfl rfl Tryd.func53 (by kernel_rfl) rfl #[.agg #[.int .i64 a0_0, .int .u64 a0_1, .int .u64 a0_2, .int .u64 a0_3, .int .u64 a0_4]] rfl ar_ ?_; (with_reducible refine (XTCheck.calls a0_0 a0_1 a0_2 a0_3 a0_4 (some q179) _ A2.out).mono ?_); rintro e w36 ⟨rfl, hb⟩; refine ⟨_, rfl, ?_⟩; replace BK176 := bb_ BK176.out hb; replace BK177 := bb_ BK177.out hb; replace HB := Aside0.mk (below_step (hg2_ GE176.out GE177.out) hb); (try clear hb); (try clear hb2); (try clear hk); (try clear hi); (try simp only [errW_none, errW_some]); obtain ⟨hcz37_0, hcz37_1⟩ := cz2_ BK177.out; obtain ⟨hfz37_0, hfz37_1⟩ := fz2_ BK177.out))
  refine bodyPost_ret (results_ctt rfl _ _ gb177 37 #[.slice none 0 0, .int .i64 0] (0, 0) _ rfl (by (with_reducible repeat (first | apply bN_ | apply bD_ | apply bA_)); refine blk_put (cs := #[.slice none 0 0, .int .i64 0]) ?_ 1 _ rfl; (with_reducible repeat (first | apply bN_ | apply bD_ | apply bA_)); refine blk_put (cs := #[.slice none 0 0, .int .i64 0]) ?_ 0 _ rfl; (with_reducible repeat (first | apply bN_ | apply bD_ | apply bA_)); exact BK177.out) Tryd.underlying37 rfl (by kernel_rfl)) rfl ?_
  exact ⟨_, by first | rfl | (simp [errW_none, errW_some] <;> rfl) | (simp [*, errW_none, errW_some] <;> rfl), by first | exact Kd.R_nil _ _ _ _ _ | exact Kd.N_nil _ _ _ _ _ | exact Kd.V_nil _ _ _ _ _ | exact Kd.Q_nil _ _ _ _ _ | exact Kd.S_nil _ _ _ _ _, by repeat (first | (with_reducible first | exact HB.out | apply ba_ | apply bn_ | apply bd_ | refine below_set ?_ GE176.out | refine below_set ?_ GE177.out) | exact HB.out)⟩
 have H1 : (if a0_0 = 1 then ((iso_hexes.f k a0_0 a0_1 a0_2 a0_3 a0_4).bind fun bt180 => (some (bt180.1, bt180.2.1, bt180.2.2, none))) else ((iso_triangles.f k a0_0 a0_1 a0_2 a0_3 a0_4).bind fun bt186 => (some (bt186.1, bt186.2.1, bt186.2.2, none)))) = some (r1, r2, r3, r4) := by rw [if_pos (show (none : Option Int).isNone = true by rfl)] at H; exact H
 clear H
 have H := H1
 clear H1
 try simp only [errW_none, errW_some]
 by_cases c3 : a0_0 = 1
 ·
  rw [if_pos c3] at H
  have c3b0 : (a0_0 == 1) = true := beq_iff_eq.mpr c3
  have c3b1 : (a0_0 != 1) = false := bne_eq_false_iff_eq.mpr c3
  clear c3
  replace H := Option.bind_eq_some_iff.mp H
  obtain ⟨⟨t180, t183, t184⟩, A40, H⟩ := H
  replace H : (some (t180, t183, t184, none)) = some (r1, r2, r3, r4) := H
  have A4 := Aside0.mk A40
  clear A40
  simp only [Option.some.injEq, Prod.mk.injEq] at H
  obtain ⟨rfl, rfl, rfl, rfl⟩ := H
  go_enter Tryd.func17, Tryd.ntmps17
  go_wp2_with (first | ((with_reducible refine gate_dst (N := 1) rfl ?_); refine bx_ 1 #[.int .i64 a0_0, .int .u64 a0_1, .int .u64 a0_2, .int .u64 a0_3, .int .u64 a0_4] 29 ?_; intro gb176 hg w5 hbox hb; have BK176 := Aside0.mk (hbox); have GW176 := Aside0.mk ((by rw [hg]; exact (below_size hb_) : w.heap.size ≤ gb176)); have GE176 := GW176; replace HB := Aside0.mk (below_step hb_ hb); clear hb hbox hg) | ((with_reducible refine gate_dst (N := 2) rfl ?_); refine bx_ 2 #[.slice none 0 0, .int .i64 0] 37 ?_; intro gb177 hg w6 hbox hb; have BK177 := Aside0.mk (hbox); have GW177 := Aside0.mk ((by rw [hg]; exact (below_size (hg_ GE176.out)) : w.heap.size ≤ gb177)); have GE177 := GW177; have NB176_177 := Aside0.mk ((by rw [hg]; exact ne1_ BK176.out : gb176 ≠ gb177)); have NB177_176 := Aside0.mk ((by rw [hg]; exact ne2_ BK176.out : gb177 ≠ gb176)); replace BK176 := bb_ BK176.out hb; replace HB := Aside0.mk (below_step (hg_ GE176.out) hb); clear hb hbox hg; have hnb7 := NB176_177.out; have hnc7 := NB177_176.out; obtain ⟨hcz8_0, hcz8_1, hcz8_2, hcz8_3, hcz8_4⟩ := cz5_ BK176.out; obtain ⟨hfz8_0, hfz8_1, hfz8_2, hfz8_3, hfz8_4⟩ := fz5_ BK176.out) | ((with_reducible refine gate_callee (f := 53) rfl ?_); refine goesL_ (some 11) rfl rfl Tryd.func53 (by kernel_rfl) rfl #[.agg #[.int .i64 a0_0, .int .u64 a0_1, .int .u64 a0_2, .int .u64 a0_3, .int .u64 a0_4]] rfl ar_ ?_; (with_reducible refine (XTCheck.calls a0_0 a0_1 a0_2 a0_3 a0_4 none _ A2.out).mono ?_); rintro e w9 ⟨rfl, hb⟩; refine ⟨_, rfl, ?_⟩; replace BK176 := bb_ BK176.out hb; replace BK177 := bb_ BK177.out hb; replace HB := Aside0.mk (below_step (hg2_ GE176.out GE177.out) hb); (try clear hb); (try clear hb2); (try clear hk); (try clear hi); (try simp only [errW_none, errW_some]); obtain ⟨hcz10_0, hcz10_1, hcz10_2, hcz10_3, hcz10_4⟩ := cz5_ BK176.out; obtain ⟨hfz10_0, hfz10_1, hfz10_2, hfz10_3, hfz10_4⟩ := fz5_ BK176.out) | ((with_reducible refine gate_callee (f := 54) rfl ?_); refine goesL_ (some 21) rfl rfl Tryd.func54 (by kernel_rfl) rfl #[.agg #[.int .i64 a0_0, .int .u64 a0_1, .int .u64 a0_2, .int .u64 a0_3, .int .u64 a0_4]] rfl ar_ ?_; (with_reducible refine (iso_hexes.calls k a0_0 a0_1 a0_2 a0_3 a0_4 t180 t183 t184 _ ?side1 A4.out).mono ?_); (case side1 => exact HGSix.out.below (hg2_ GE176.out GE177.out)); rintro e w11 ⟨v181, rfl, ho0, hb⟩; refine ⟨_, rfl, ?_⟩; have HO182 := Aside0.mk (Kd.R_lower ho0 (below_size (hg2_ GE176.out GE177.out))); replace BK176 := bb_ BK176.out hb; replace BK177 := bb_ BK177.out hb; replace HB := Aside0.mk (below_step (hg2_ GE176.out GE177.out) hb); (try clear hb); (try clear hb2); (try clear hk); (try clear hi); (try clear ho0)) | ((with_reducible refine gate_dst (N := 6) rfl ?_); refine bx_ 6 #[.slice none 0 0, .int .i64 0] 37 ?_; intro gb185 hg w12 hbox hb; have BK185 := Aside0.mk (hbox); have GW185 := Aside0.mk ((by rw [hg]; exact (below_size (hg2_ GE176.out GE177.out)) : w.heap.size ≤ gb185)); have GE185 := GW185; have NB176_185 := Aside0.mk ((by rw [hg]; exact ne1_ BK176.out : gb176 ≠ gb185)); have NB185_176 := Aside0.mk ((by rw [hg]; exact ne2_ BK176.out : gb185 ≠ gb176)); have NB177_185 := Aside0.mk ((by rw [hg]; exact ne1_ BK177.out : gb177 ≠ gb185)); have NB185_177 := Aside0.mk ((by rw [hg]; exact ne2_ BK177.out : gb185 ≠ gb177)); replace HO182 := Aside0.mk (Kd.R_below (kr_ HO182.out) hb); replace BK176 := bb_ BK176.out hb; replace BK177 := bb_ BK177.out hb; replace HB := Aside0.mk (below_step (hg2_ GE176.out GE177.out) hb); clear hb hbox hg; obtain ⟨Ao13, co13, eo13⟩ := Kd.R_slice HO182.out; subst eo13; have hnb14 := NB185_176.out; have hnc14 := NB176_185.out; have hnb15 := NB185_177.out; have hnc15 := NB177_185.out; obtain ⟨hcz16_0, hcz16_1⟩ := cz2_ BK185.out; obtain ⟨hfz16_0, hfz16_1⟩ := fz2_ BK185.out; obtain ⟨hcz17_0, hcz17_1⟩ := cz2_ BK177.out; obtain ⟨hfz17_0, hfz17_1⟩ := fz2_ BK177.out))
  refine bodyPost_ret (results_ctt rfl _ _ gb177 37 #[.slice Ao13 t180.length co13, .int .i64 t183] (0, 0) _ rfl (by (with_reducible repeat (first | apply bN_ | apply bD_ | apply bA_)); refine blk_put (cs := #[.slice Ao13 t180.length co13, .int .i64 0]) ?_ 1 _ rfl; (with_reducible repeat (first | apply bN_ | apply bD_ | apply bA_)); refine blk_put (cs := #[.slice none 0 0, .int .i64 0]) ?_ 0 _ rfl; (with_reducible repeat (first | apply bN_ | apply bD_ | apply bA_)); refine blk_far ?_ NB177_185.out _; (with_reducible repeat (first | apply bN_ | apply bD_ | apply bA_)); refine blk_far ?_ NB177_185.out _; (with_reducible repeat (first | apply bN_ | apply bD_ | apply bA_)); exact BK177.out) Tryd.underlying37 rfl (by kernel_rfl)) rfl ?_
  exact ⟨_, by first | rfl | (simp [errW_none, errW_some] <;> rfl) | (simp [*, errW_none, errW_some] <;> rfl), by (with_reducible repeat (first | apply Kd.R_alloc | apply Kd.R_drewN | apply Kd.R_drew)); exact Kd.R_mono (Kd.R_far (p := ⟨gb177, 1, none⟩) (Kd.R_far (p := ⟨gb177, 0, none⟩) (Kd.R_far (p := ⟨gb185, 1, none⟩) (Kd.R_far (p := ⟨gb185, 0, none⟩) (Kd.R_types (Kd.R_types HO182.out BK185.out (by decide)) BK177.out (by decide)) (fun _ hk => hk.1.2) (.slice Ao13 t180.length co13)) (fun _ hk => hk.1.2) (.int .i64 t183)) (fun _ hk => hk.2) (.slice Ao13 t180.length co13)) (fun _ hk => hk.2) (.int .i64 t183)) (fun _ hk => trivial), by repeat (first | (with_reducible first | exact HB.out | apply ba_ | apply bn_ | apply bd_ | refine below_set ?_ GE176.out | refine below_set ?_ GE177.out | refine below_set ?_ GE185.out) | exact HB.out)⟩
 rw [if_neg c3] at H
 have c3b0 : (a0_0 == 1) = false := beq_eq_false_iff_ne.mpr c3
 have c3b1 : (a0_0 != 1) = true := bne_iff_ne.mpr c3
 replace H := Option.bind_eq_some_iff.mp H
 obtain ⟨⟨t186, t189, t190⟩, A180, H⟩ := H
 replace H : (some (t186, t189, t190, none)) = some (r1, r2, r3, r4) := H
 have A18 := Aside0.mk A180
 clear A180
 simp only [Option.some.injEq, Prod.mk.injEq] at H
 obtain ⟨rfl, rfl, rfl, rfl⟩ := H
 go_enter Tryd.func17, Tryd.ntmps17
 go_wp2_with (first | ((with_reducible refine gate_dst (N := 1) rfl ?_); refine bx_ 1 #[.int .i64 a0_0, .int .u64 a0_1, .int .u64 a0_2, .int .u64 a0_3, .int .u64 a0_4] 29 ?_; intro gb176 hg w19 hbox hb; have BK176 := Aside0.mk (hbox); have GW176 := Aside0.mk ((by rw [hg]; exact (below_size hb_) : w.heap.size ≤ gb176)); have GE176 := GW176; replace HB := Aside0.mk (below_step hb_ hb); clear hb hbox hg) | ((with_reducible refine gate_dst (N := 2) rfl ?_); refine bx_ 2 #[.slice none 0 0, .int .i64 0] 37 ?_; intro gb177 hg w20 hbox hb; have BK177 := Aside0.mk (hbox); have GW177 := Aside0.mk ((by rw [hg]; exact (below_size (hg_ GE176.out)) : w.heap.size ≤ gb177)); have GE177 := GW177; have NB176_177 := Aside0.mk ((by rw [hg]; exact ne1_ BK176.out : gb176 ≠ gb177)); have NB177_176 := Aside0.mk ((by rw [hg]; exact ne2_ BK176.out : gb177 ≠ gb176)); replace BK176 := bb_ BK176.out hb; replace HB := Aside0.mk (below_step (hg_ GE176.out) hb); clear hb hbox hg; have hnb21 := NB176_177.out; have hnc21 := NB177_176.out; obtain ⟨hcz22_0, hcz22_1, hcz22_2, hcz22_3, hcz22_4⟩ := cz5_ BK176.out; obtain ⟨hfz22_0, hfz22_1, hfz22_2, hfz22_3, hfz22_4⟩ := fz5_ BK176.out) | ((with_reducible refine gate_callee (f := 53) rfl ?_); refine goesL_ (some 11) rfl rfl Tryd.func53 (by kernel_rfl) rfl #[.agg #[.int .i64 a0_0, .int .u64 a0_1, .int .u64 a0_2, .int .u64 a0_3, .int .u64 a0_4]] rfl ar_ ?_; (with_reducible refine (XTCheck.calls a0_0 a0_1 a0_2 a0_3 a0_4 none _ A2.out).mono ?_); rintro e w23 ⟨rfl, hb⟩; refine ⟨_, rfl, ?_⟩; replace BK176 := bb_ BK176.out hb; replace BK177 := bb_ BK177.out hb; replace HB := Aside0.mk (below_step (hg2_ GE176.out GE177.out) hb); (try clear hb); (try clear hb2); (try clear hk); (try clear hi); (try simp only [errW_none, errW_some]); obtain ⟨hcz24_0, hcz24_1, hcz24_2, hcz24_3, hcz24_4⟩ := cz5_ BK176.out; obtain ⟨hfz24_0, hfz24_1, hfz24_2, hfz24_3, hfz24_4⟩ := fz5_ BK176.out) | ((with_reducible refine gate_callee (f := 55) rfl ?_); refine goesL_ (some 28) rfl rfl Tryd.func55 (by kernel_rfl) rfl #[.agg #[.int .i64 a0_0, .int .u64 a0_1, .int .u64 a0_2, .int .u64 a0_3, .int .u64 a0_4]] rfl ar_ ?_; (with_reducible refine (iso_triangles.calls k a0_0 a0_1 a0_2 a0_3 a0_4 t186 t189 t190 _ ?side1 A18.out).mono ?_); (case side1 => exact HGSix.out.below (hg2_ GE176.out GE177.out)); rintro e w25 ⟨v187, rfl, ho0, hb⟩; refine ⟨_, rfl, ?_⟩; have HO188 := Aside0.mk (Kd.R_lower ho0 (below_size (hg2_ GE176.out GE177.out))); replace BK176 := bb_ BK176.out hb; replace BK177 := bb_ BK177.out hb; replace HB := Aside0.mk (below_step (hg2_ GE176.out GE177.out) hb); (try clear hb); (try clear hb2); (try clear hk); (try clear hi); (try clear ho0)) | ((with_reducible refine gate_dst (N := 8) rfl ?_); refine bx_ 8 #[.slice none 0 0, .int .i64 0] 37 ?_; intro gb191 hg w26 hbox hb; have BK191 := Aside0.mk (hbox); have GW191 := Aside0.mk ((by rw [hg]; exact (below_size (hg2_ GE176.out GE177.out)) : w.heap.size ≤ gb191)); have GE191 := GW191; have NB176_191 := Aside0.mk ((by rw [hg]; exact ne1_ BK176.out : gb176 ≠ gb191)); have NB191_176 := Aside0.mk ((by rw [hg]; exact ne2_ BK176.out : gb191 ≠ gb176)); have NB177_191 := Aside0.mk ((by rw [hg]; exact ne1_ BK177.out : gb177 ≠ gb191)); have NB191_177 := Aside0.mk ((by rw [hg]; exact ne2_ BK177.out : gb191 ≠ gb177)); replace HO188 := Aside0.mk (Kd.R_below (kr_ HO188.out) hb); replace BK176 := bb_ BK176.out hb; replace BK177 := bb_ BK177.out hb; replace HB := Aside0.mk (below_step (hg2_ GE176.out GE177.out) hb); clear hb hbox hg; obtain ⟨Ao27, co27, eo27⟩ := Kd.R_slice HO188.out; subst eo27; have hnb28 := NB191_176.out; have hnc28 := NB176_191.out; have hnb29 := NB191_177.out; have hnc29 := NB177_191.out; obtain ⟨hcz30_0, hcz30_1⟩ := cz2_ BK191.out; obtain ⟨hfz30_0, hfz30_1⟩ := fz2_ BK191.out; obtain ⟨hcz31_0, hcz31_1⟩ := cz2_ BK177.out; obtain ⟨hfz31_0, hfz31_1⟩ := fz2_ BK177.out))
 refine bodyPost_ret (results_ctt rfl _ _ gb177 37 #[.slice Ao27 t186.length co27, .int .i64 t189] (0, 0) _ rfl (by (with_reducible repeat (first | apply bN_ | apply bD_ | apply bA_)); refine blk_put (cs := #[.slice Ao27 t186.length co27, .int .i64 0]) ?_ 1 _ rfl; (with_reducible repeat (first | apply bN_ | apply bD_ | apply bA_)); refine blk_put (cs := #[.slice none 0 0, .int .i64 0]) ?_ 0 _ rfl; (with_reducible repeat (first | apply bN_ | apply bD_ | apply bA_)); refine blk_far ?_ NB177_191.out _; (with_reducible repeat (first | apply bN_ | apply bD_ | apply bA_)); refine blk_far ?_ NB177_191.out _; (with_reducible repeat (first | apply bN_ | apply bD_ | apply bA_)); exact BK177.out) Tryd.underlying37 rfl (by kernel_rfl)) rfl ?_
 exact ⟨_, by first | rfl | (simp [errW_none, errW_some] <;> rfl) | (simp [*, errW_none, errW_some] <;> rfl), by (with_reducible repeat (first | apply Kd.R_alloc | apply Kd.R_drewN | apply Kd.R_drew)); exact Kd.R_mono (Kd.R_far (p := ⟨gb177, 1, none⟩) (Kd.R_far (p := ⟨gb177, 0, none⟩) (Kd.R_far (p := ⟨gb191, 1, none⟩) (Kd.R_far (p := ⟨gb191, 0, none⟩) (Kd.R_types (Kd.R_types HO188.out BK191.out (by decide)) BK177.out (by decide)) (fun _ hk => hk.1.2) (.slice Ao27 t186.length co27)) (fun _ hk => hk.1.2) (.int .i64 t189)) (fun _ hk => hk.2) (.slice Ao27 t186.length co27)) (fun _ hk => hk.2) (.int .i64 t189)) (fun _ hk => trivial), by repeat (first | (with_reducible first | exact HB.out | apply ba_ | apply bn_ | apply bd_ | refine below_set ?_ GE176.out | refine below_set ?_ GE177.out | refine below_set ?_ GE191.out) | exact HB.out)⟩
end Go.Proofs.YtaeenefdbahfoaaDoor.H
