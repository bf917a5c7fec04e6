/- Parts of the proof of IsoWitness, merged out of our texts by wip/tools/pack.py. -/
import Derived.Test.YtaeenefdbahfoaaDoorKIsoWitness1
import Derived.Test.YtaeenefdbahfoaaDoorKIsoWitness4
import Derived.Test.YtaeenefdbahfoaaDoorKIsoWitness2
import Derived.Test.YtaeenefdbahfoaaDoorKIsoWitness3
import Derived.Test.YtaeenefdbahfoaaDoorKIsoWitness7
namespace Go.Proofs.YtaeenefdbahfoaaDoor
set_option linter.unusedSimpArgs false
set_option linter.unusedVariables false
set_option maxRecDepth 100000
set_option maxHeartbeats 16000000
open Go.RowKit Go.Proofs.YtaeenefdbahfoaaDoorW.PrintWords Go.Proofs.YtaeenefdbahfoaaDoorW.PrintLast Go.Proofs.YtaeenefdbahfoaaDoorW.PrintMore
namespace H
attribute [local go_sem] max2_int min2_int max_two min_two max_three min_three max_four min_four
mutual
def iso_hexes.l0 : Nat → Int → Int → Int → Int → Int → Int → Option ((List (S65)) × Int × Bool)
 | 0, _, _, _, _, _, _ => none
 | k + 1, x8, x111000, x111001, x111002, x111003, x111004 => if x8 < 12 then (iso_hexes.l1 k x8 x8 0 x111000 x111001 x111002 x111003 x111004) else (some (([] : List (S65)), 0, false))
def iso_hexes.l1 : Nat → Int → Int → Int → Int → Int → Int → Int → Int → Option ((List (S65)) × Int × Bool)
 | 0, _, _, _, _, _, _, _, _ => none
 | k + 1, x4, x8, x11, x111000, x111001, x111002, x111003, x111004 => if x11 < 64 then ((some (([false, true] : List Bool) : List Bool)).bind fun y112 => (iso_hexes.l2 k x4 x11 x8 x11 y112 (y112.length : Int) 0 x111000 x111001 x111002 x111003 x111004)) else (iso_hexes.l0 k (wrap64 (x8 + 1)) x111000 x111001 x111002 x111003 x111004)
def iso_hexes.l2 : Nat → Int → Int → Int → Int → List Bool → Int → Int → Int → Int → Int → Int → Int → Option ((List (S65)) × Int × Bool)
 | 0, _, _, _, _, _, _, _, _, _, _, _, _ => none
 | k + 1, x4, x5, x8, x11, x14, x15, x16, x111000, x111001, x111002, x111003, x111004 => if x16 < x15 then (if 0 ≤ x16 then (if x16 < (x14.length : Int) then ((XNext.f x111000 x111001 x111002 x111003 x111004 0 (rdOf false x14 x16) x5).bind fun t116 => ((XBrought.f x4 x5).bind fun t117 => ((XNext.f x111000 x111001 x111002 x111003 x111004 0 (rdOf false x14 x16) t117).bind fun t118 => (if (t116 != t118) = true then ((XPattern.f x5 (rdOf false x14 x16)).bind fun t119 => (some (t119, x4, true))) else (iso_hexes.l2 k x4 x5 x8 x11 x14 x15 (wrap64 (x16 + 1)) x111000 x111001 x111002 x111003 x111004))))) else (none)) else (none)) else (iso_hexes.l1 k x4 x8 (wrap64 (x11 + 1)) x111000 x111001 x111002 x111003 x111004)
end
def iso_hexes.f (k : Nat) (a0_0 : Int) (a0_1 : Int) (a0_2 : Int) (a0_3 : Int) (a0_4 : Int) : Option ((List (S65)) × Int × Bool) := iso_hexes.l0 k 0 a0_0 a0_1 a0_2 a0_3 a0_4
def iso_hexes.T10 : Bool × List (List Nat × List Nat) := (true, [([], []), ([], []), ([], []), ([0, 1, 2], [0, 1, 2]), ([], []), ([], []), ([], []), ([], []), ([6, 7, 3], [6, 7]), ([4, 5, 8, 8], [4, 5, 8]), ([3, 9], [3, 9])])
def iso_hexes.B10 : List Nat := [0, 0, 0, 7, 0, 0, 0, 0, 207, 511, 1023]
theorem iso_hexes.tab10 : rtab .any (opsOf Tryd.f54 10) = iso_hexes.T10 := by kernel_rfl
theorem iso_hexes.bits10 : waitsOk iso_hexes.T10.2 iso_hexes.B10 = true := by kernel_rfl
theorem iso_hexes.calls (k : Nat) (a0_0 : Int) (a0_1 : Int) (a0_2 : Int) (a0_3 : Int) (a0_4 : Int) (r1 : List (S65)) (r2 : Int) (r3 : Bool) (w : World) (hGSix : Six w) (h : iso_hexes.f k a0_0 a0_1 a0_2 a0_3 a0_4 = some (r1, r2, r3)) :
  Calls Tryd.prog 54 #[.agg #[.int .i64 a0_0, .int .u64 a0_1, .int .u64 a0_2, .int .u64 a0_3, .int .u64 a0_4]] w fun e w' => ∃ v0_ : Value, e = .returned (.tuple #[.agg #[v0_, .int .i64 r2], .bool r3]) ∧ Kd.R k65 65 w' w.heap.size (fun _ => True) v0_ r1 ∧ Below w.heap.size w w' := by
 have hu29 := Tryd.underlying29
 have hu37 := Tryd.underlying37
 have HB := Aside0.mk (Below.refl w.heap.size w)
 have HGSix := Aside0.mk hGSix
 clear hGSix
 have H : (iso_hexes.l0 k 0 a0_0 a0_1 a0_2 a0_3 a0_4) = some (r1, r2, r3) := h
 clear h
 have H' := Aside0.mk H
 clear H
 go_enter Tryd.func54, Tryd.ntmps54
 go_wp2_with (first | ((with_reducible refine gate_dst (N := 1) rfl ?_); refine bx_ 1 #[.int .i64 a0_0, .int .u64 a0_1, .int .u64 a0_2, .int .u64 a0_3, .int .u64 a0_4] 29 ?_; intro gb110 hg w2 hbox hb; have BK110 := Aside0.mk (hbox); have GW110 := Aside0.mk ((by rw [hg]; exact (below_size hb_) : w.heap.size ≤ gb110)); have GE110 := GW110; replace HB := Aside0.mk (below_step hb_ hb); clear hb hbox hg) | ((with_reducible refine gate_dst (N := 2) rfl ?_); refine bx_ 2 #[.slice none 0 0, .int .i64 0] 37 ?_; intro gb111 hg w3 hbox hb; have BK111 := Aside0.mk (hbox); have GW111 := Aside0.mk ((by rw [hg]; exact (below_size (hg_ GE110.out)) : w.heap.size ≤ gb111)); have GE111 := GW111; have NB110_111 := Aside0.mk ((by rw [hg]; exact ne1_ BK110.out : gb110 ≠ gb111)); have NB111_110 := Aside0.mk ((by rw [hg]; exact ne2_ BK110.out : gb111 ≠ gb110)); replace BK110 := bb_ BK110.out hb; replace HB := Aside0.mk (below_step (hg_ GE110.out) hb); clear hb hbox hg))
 go_loopg [8] k (fun kq v8 w' => ∃ (x8_1 : Int) (x112001_1 : Int), v8 = .int .i64 x8_1 ∧ Aside0 (iso_hexes.l0 kq x8_1 a0_0 a0_1 a0_2 a0_3 a0_4 = some (r1, r2, r3)) ∧ Aside0 (kq ≤ k) ∧ Aside0 (w'.heap[gb110]? = some (.cells #[.int .i64 a0_0, .int .u64 a0_1, .int .u64 a0_2, .int .u64 a0_3, .int .u64 a0_4] 29 (0, 0))) ∧ Aside0 (w'.heap[gb111]? = some (.cells #[(.slice none 0 0), .int .i64 x112001_1] 37 (0, 0))) ∧ Aside0 (Below w.heap.size w w'))
 case atStart => exact ⟨(0), (0), rs_, H', ⟨Nat.le_refl _⟩, ⟨bk_ BK110.out⟩, ⟨bk_ BK111.out⟩, ⟨by repeat (first | (with_reducible first | exact HB.out | apply ba_ | apply bn_ | apply bd_ | refine below_set ?_ GE110.out | refine below_set ?_ GE111.out) | exact HB.out)⟩⟩
 case round =>
  clear H'
  try clear p2
  obtain ⟨x8_1, x112001_1, rfl, HA, HK1, BK110, BK111, HB⟩ := hrel
  cases gk with
  | zero => exact absurd HA.out (by simp [iso_hexes.l0])
  | succ k1 =>
   have H := HA.out
   clear HA
   simp only [iso_hexes.l0] at H
   by_cases c4 : x8_1 < 12
   rotate_left
   ·
    rw [if_neg c4] at H
    have c4b0 : decide (x8_1 < 12) = false := decide_eq_false c4
    clear c4
    simp only [Option.some.injEq, Prod.mk.injEq] at H
    obtain ⟨rfl, rfl, rfl⟩ := H
    have hnb29 := NB111_110.out
    have hnc29 := NB110_111.out
    obtain ⟨hcz30_0, hcz30_1⟩ := cz2_ BK111.out
    obtain ⟨hfz30_0, hfz30_1⟩ := fz2_ BK111.out
    go_wp2
    refine bodyPost_ret (results_ct rfl _ _ gb111 37 #[.slice none 0 0, .int .i64 0] (0, 0) _ rfl (by (with_reducible repeat (first | apply bN_ | apply bD_ | apply bA_)); refine blk_put (cs := #[.slice none 0 0, .int .i64 x112001_1]) ?_ 1 _ rfl; (with_reducible repeat (first | apply bN_ | apply bD_ | apply bA_)); refine blk_put (cs := #[.slice none 0 0, .int .i64 x112001_1]) ?_ 0 _ rfl; (with_reducible repeat (first | apply bN_ | apply bD_ | apply bA_)); exact BK111.out) Tryd.underlying37 rfl (by kernel_rfl)) rfl ?_
    exact ⟨_, by first | rfl | (simp [errW_none, errW_some] <;> rfl) | (simp [*, errW_none, errW_some] <;> rfl), by first | exact Kd.R_nil _ _ _ _ _ | exact Kd.N_nil _ _ _ _ _ | exact Kd.V_nil _ _ _ _ _ | exact Kd.Q_nil _ _ _ _ _ | exact Kd.S_nil _ _ _ _ _, by repeat (first | (with_reducible first | exact HB.out | apply ba_ | apply bn_ | apply bd_ | refine below_set ?_ GE110.out | refine below_set ?_ GE111.out) | exact HB.out)⟩
   rw [if_pos c4] at H
   have c4b0 : decide (x8_1 < 12) = true := decide_eq_true c4
   clear c4
   have H' := Aside0.mk H
   clear H
   go_wp2
   go_loopg [11] k1 (fun kq v11 w' => ∃ (x11_2 : Int) (x112001_2 : Int), v11 = .int .i64 x11_2 ∧ Aside0 (iso_hexes.l1 kq x8_1 x8_1 x11_2 a0_0 a0_1 a0_2 a0_3 a0_4 = some (r1, r2, r3)) ∧ Aside0 (kq ≤ k1) ∧ Aside0 (w'.heap[gb110]? = some (.cells #[.int .i64 a0_0, .int .u64 a0_1, .int .u64 a0_2, .int .u64 a0_3, .int .u64 a0_4] 29 (0, 0))) ∧ Aside0 (w'.heap[gb111]? = some (.cells #[(.slice none 0 0), .int .i64 x112001_2] 37 (0, 0))) ∧ Aside0 (Below w.heap.size w w'))
   case atStart => exact ⟨(0), (x112001_1), rs_, H', ⟨Nat.le_refl _⟩, ⟨bk_ BK110.out⟩, ⟨bk_ BK111.out⟩, ⟨by repeat (first | (with_reducible first | exact HB.out | apply ba_ | apply bn_ | apply bd_ | refine below_set ?_ GE110.out | refine below_set ?_ GE111.out) | exact HB.out)⟩⟩
   case round =>
    clear H'
    try clear p2
    try clear c4
    try clear c4b0
    try clear p2
    obtain ⟨x11_2, x112001_2, rfl, HA, HK2, BK110, BK111, HB⟩ := hrel
    cases gk with
    | zero => exact absurd HA.out (by simp [iso_hexes.l1])
    | succ k2 =>
     have H := HA.out
     clear HA
     simp only [iso_hexes.l1] at H
     by_cases c5 : x11_2 < 64
     rotate_left
     ·
      rw [if_neg c5] at H
      have c5b0 : decide (x11_2 < 64) = false := decide_eq_false c5
      clear c5
      have H' := Aside0.mk H
      clear H
      go_wp2
      go_roundg k2
      case measure => have := HK1.out; have := HK2.out; omega
      case rel => exact ⟨(wrap64 (x8_1 + 1)), (x112001_2), rs_, H', ⟨by have := HK1.out; have := HK2.out; omega⟩, ⟨bk_ BK110.out⟩, ⟨bk_ BK111.out⟩, ⟨by repeat (first | (with_reducible first | exact HB.out | apply ba_ | apply bn_ | apply bd_ | refine below_set ?_ GE110.out | refine below_set ?_ GE111.out) | exact HB.out)⟩⟩
     rw [if_pos c5] at H
     have c5b0 : decide (x11_2 < 64) = true := decide_eq_true c5
     clear c5
     obtain ⟨y112, hy112⟩ : ∃ y_ : List Bool, y_ = (([false, true] : List Bool)) := ⟨_, rfl⟩
     replace H : (iso_hexes.l2 k2 x8_1 x11_2 x8_1 x11_2 y112 (y112.length : Int) 0 a0_0 a0_1 a0_2 a0_3 a0_4) = some (r1, r2, r3) := by first | (rw [hy112]; with_reducible exact H) | (have H2_ := (Option.bind_some _ _).symm.trans H; rw [hy112]; with_reducible exact H2_) | (have H2_ := (Option.bind_some _ _).symm.trans H; with_reducible exact H2_) | with_reducible exact H | (rw [hy112]; exact H) | exact H
     have Ny112 := Aside0.mk hy112
     clear hy112
     have H' := Aside0.mk H
     clear H
     go_wp2_with (first | ((with_reducible refine gate_dst (N := 14) rfl ?_); refine rs1_ Kd.bool 4 14 ([false, true] : List Bool) [.bool false, .bool true] (Reps.one (show Kd.M Kd.bool _ _ _ false [.bool false] from rfl) (Reps.one (show Kd.M Kd.bool _ _ _ true [.bool true] from rfl) (Reps.none _ _))) ?_; intro v113 w6 ho7 hb; (first | rw [← Ny112.out] at ho7 | (simp only [Int.reduceToNat] at ho7; rw [← Ny112.out] at ho7)); have HO114 := Aside0.mk (Kd.R_lower ho7 (below_size (hg2_ GE110.out GE111.out))); replace BK110 := bb_ BK110.out hb; replace BK111 := bb_ BK111.out hb; replace HB := Aside0.mk (below_step (hg2_ GE110.out GE111.out) hb); clear hb ho7; obtain ⟨Ao8, co8, eo8⟩ := Kd.R_slice HO114.out; subst eo8))
     go_loopg [16] k2 (fun kq v16 w' => ∃ (x16_3 : Int) (x112001_3 : Int), v16 = .int .i64 x16_3 ∧ Aside0 (iso_hexes.l2 kq x8_1 x11_2 x8_1 x11_2 y112 (y112.length : Int) x16_3 a0_0 a0_1 a0_2 a0_3 a0_4 = some (r1, r2, r3)) ∧ Aside0 (kq ≤ k2) ∧ Aside0 (Kd.R Kd.bool 4 w' w.heap.size (fun _ => True) (.slice Ao8 y112.length co8) y112) ∧ Aside0 (w'.heap[gb110]? = some (.cells #[.int .i64 a0_0, .int .u64 a0_1, .int .u64 a0_2, .int .u64 a0_3, .int .u64 a0_4] 29 (0, 0))) ∧ Aside0 (w'.heap[gb111]? = some (.cells #[(.slice none 0 0), .int .i64 x112001_3] 37 (0, 0))) ∧ Aside0 (Below w.heap.size w w'))
     case atStart => exact ⟨(0), (x112001_2), rs_, H', ⟨Nat.le_refl _⟩, ⟨kr_ HO114.out⟩, ⟨bk_ BK110.out⟩, ⟨bk_ BK111.out⟩, ⟨by repeat (first | (with_reducible first | exact HB.out | apply ba_ | apply bn_ | apply bd_ | refine below_set ?_ GE110.out | refine below_set ?_ GE111.out) | exact HB.out)⟩⟩
     case round =>
      clear H'
      try clear p2
      try clear c4
      try clear c4b0
      try clear c5
      try clear c5b0
      try clear p2
      obtain ⟨x16_3, x112001_3, rfl, HA, HK3, HO_14, BK110, BK111, HB⟩ := hrel
      cases gk with
      | zero => exact absurd HA.out (by simp [iso_hexes.l2])
      | succ k3 =>
       have H := HA.out
       clear HA
       simp only [iso_hexes.l2] at H
       by_cases c9 : x16_3 < (y112.length : Int)
       rotate_left
       ·
        rw [if_neg c9] at H
        have c9b0 : decide (x16_3 < (y112.length : Int)) = false := decide_eq_false c9
        clear c9
        have H' := Aside0.mk H
        clear H
        go_wp2
        go_roundg k3
        case measure => have := HK1.out; have := HK2.out; have := HK3.out; omega
        case rel => exact ⟨(wrap64 (x11_2 + 1)), (x112001_3), rs_, H', ⟨by have := HK1.out; have := HK2.out; have := HK3.out; omega⟩, ⟨bk_ BK110.out⟩, ⟨bk_ BK111.out⟩, ⟨by repeat (first | (with_reducible first | exact HB.out | apply ba_ | apply bn_ | apply bd_ | refine below_set ?_ GE110.out | refine below_set ?_ GE111.out) | exact HB.out)⟩⟩
       rw [if_pos c9] at H
       have c9b0 : decide (x16_3 < (y112.length : Int)) = true := decide_eq_true c9
       clear c9
       by_cases c10 : 0 ≤ x16_3
       rotate_left
       ·
        rw [if_neg c10] at H
        exact absurd H (by simp)
       rw [if_pos c10] at H
       have c10b0 : decide (0 ≤ x16_3) = true := decide_eq_true c10
       clear c10
       by_cases c11 : x16_3 < (y112.length : Int)
       rotate_left
       ·
        rw [if_neg c11] at H
        exact absurd H (by simp)
       rw [if_pos c11] at H
       have c11b0 : decide (x16_3 < (y112.length : Int)) = true := decide_eq_true c11
       clear c11
       replace H := Option.bind_eq_some_iff.mp H
       obtain ⟨t116, A120, H⟩ := H
       replace H : ((XBrought.f x8_1 x11_2).bind fun t117 => ((XNext.f a0_0 a0_1 a0_2 a0_3 a0_4 0 (rdOf false y112 x16_3) t117).bind fun t118 => (if (t116 != t118) = true then ((XPattern.f x11_2 (rdOf false y112 x16_3)).bind fun t119 => (some (t119, x8_1, true))) else (iso_hexes.l2 k3 x8_1 x11_2 x8_1 x11_2 y112 (y112.length : Int) (wrap64 (x16_3 + 1)) a0_0 a0_1 a0_2 a0_3 a0_4)))) = some (r1, r2, r3) := H
       have A12 := Aside0.mk A120
       clear A120
       replace H := Option.bind_eq_some_iff.mp H
       obtain ⟨t117, A130, H⟩ := H
       replace H : ((XNext.f a0_0 a0_1 a0_2 a0_3 a0_4 0 (rdOf false y112 x16_3) t117).bind fun t118 => (if (t116 != t118) = true then ((XPattern.f x11_2 (rdOf false y112 x16_3)).bind fun t119 => (some (t119, x8_1, true))) else (iso_hexes.l2 k3 x8_1 x11_2 x8_1 x11_2 y112 (y112.length : Int) (wrap64 (x16_3 + 1)) a0_0 a0_1 a0_2 a0_3 a0_4))) = some (r1, r2, r3) := H
       have A13 := Aside0.mk A130
       clear A130
       replace H := Option.bind_eq_some_iff.mp H
       obtain ⟨t118, A140, H⟩ := H
       replace H : (if (t116 != t118) = true then ((XPattern.f x11_2 (rdOf false y112 x16_3)).bind fun t119 => (some (t119, x8_1, true))) else (iso_hexes.l2 k3 x8_1 x11_2 x8_1 x11_2 y112 (y112.length : Int) (wrap64 (x16_3 + 1)) a0_0 a0_1 a0_2 a0_3 a0_4)) = some (r1, r2, r3) := H
       have A14 := Aside0.mk A140
       clear A140
       by_cases c15 : (t116 != t118) = true
       rotate_left
       ·
        rw [if_neg c15] at H
        have c15b0 : (t116 != t118) = false := by simpa using c15
        (try (have c15b1 : decide (t116 = t118) = true := by simpa using c15))
        (try (have c15b2 : (t116 == t118) = true := by simpa using c15))
        clear c15
        have H' := Aside0.mk H
        clear H
        have p115 : 0 ≤ (x16_3 : Int) := of_decide_eq_true as_
        have q115 : x16_3 < (y112.length : Int) := of_decide_eq_true as_
        obtain ⟨ad115, e115, hx115_0⟩ := Kd.at_bool (Kd.R_reads' HO_14.out).2.2 x16_3 p115 q115
        cases e115
        replace p115 := eq_true p115
        replace q115 := eq_true q115
        try go_wp2
        replace HO_14 := Aside0.mk (Kd.R_drew HO_14.out)
        replace BK110 := Aside0.mk (blk_drew BK110.out)
        replace BK111 := Aside0.mk (blk_drew BK111.out)
        replace HB := Aside0.mk (below_drew1 HB.out)
        refine start_ (n := 11) (S := fun w' => w'.cell? ⟨gb110, 0, none⟩ = some (.int .i64 a0_0) ∧ w'.cell? ⟨gb110, 1, none⟩ = some (.int .u64 a0_1) ∧ w'.cell? ⟨gb110, 2, none⟩ = some (.int .u64 a0_2) ∧ w'.cell? ⟨gb110, 3, none⟩ = some (.int .u64 a0_3) ∧ w'.cell? ⟨gb110, 4, none⟩ = some (.int .u64 a0_4)) (ds := []) (m_ 11 0) (by kernel_rfl) rfl rfl ⟨(blk_cell BK110.out 0).trans rfl, (blk_cell BK110.out 1).trans rfl, (blk_cell BK110.out 2).trans rfl, (blk_cell BK110.out 3).trans rfl, (blk_cell BK110.out 4).trans rfl⟩ (fun hHeld => ?_); refine with_tabW iso_hexes.tab10 iso_hexes.bits10 (fun HT_ HW_ => ?_)
        generalize wr.drew = w25 at HO_14 BK110 BK111 HB hHeld ⊢
        refine pq_ 1 (some 21) (m_ 11 2) (h := ?_)
        refine pq_ 2 (some 22) (m_ 11 6) (h := ?_)
        refine pq_ 5 (some 25) (m_ 11 38) (h := ?_)
        refine pq_ 6 (some 26) (m_ 11 102) (h := ?_)
        refine pq_ 7 (some 27) (m_ 11 230) (h := ?_)
        refine tq5_ 0 (some 20) (m_ 11 231) (h := ?_)
        refine tq5_ 4 (some 24) (m_ 11 247) (h := ?_)
        refine one_ (i := 3) (N := some 23) (m_ 11 255) rfl rfl (one_of HT_.out (by kernel_rfl)) (by decide) (fun K hK => ?_)
        refine goes_ Tryd.func58 (by kernel_rfl) rfl #[.agg #[.int .i64 a0_0, .int .u64 a0_1, .int .u64 a0_2, .int .u64 a0_3, .int .u64 a0_4], .int .i64 0, .bool (rdOf false y112 x16_3), .int .i64 x11_2] (by rfl) rfl rfl ar_ ?_
        with_reducible refine (XNext.calls a0_0 a0_1 a0_2 a0_3 a0_4 0 (rdOf false y112 x16_3) x11_2 t116 _ A12.out).mono ?_
        rintro e w26 ⟨rfl, hb⟩
        refine ⟨_, rfl, ?_⟩
        replace HO_14 := Aside0.mk (Kd.R_below (kr_ HO_14.out) hb)
        replace BK110 := bb_ BK110.out hb
        replace BK111 := bb_ BK111.out hb
        replace HB := Aside0.mk (below_step (hg2_ GE110.out GE111.out) hb)
        (try clear hb)
        (try clear hb2)
        (try clear hk)
        (try clear hi)
        refine hK.out _ _ ⟨(blk_cell BK110.out 0).trans rfl, (blk_cell BK110.out 1).trans rfl, (blk_cell BK110.out 2).trans rfl, (blk_cell BK110.out 3).trans rfl, (blk_cell BK110.out 4).trans rfl⟩ (fun hHeld => ?_)
        clear hK K
        refine norm_ (a' := ?_) ?_ ?_
        rotate_left
        ·
         show Act.put _ (some 23) _ = _
         simp only [puts_]
         rfl
        refine one_ (i := 8) (N := some 28) (m_ 11 511) rfl rfl (one_of HT_.out (by kernel_rfl)) (by decide) (fun K hK => ?_)
        refine goes_ Tryd.func57 (by kernel_rfl) rfl #[.int .i64 x8_1, .int .i64 x11_2] (by rfl) rfl rfl ar_ ?_
        with_reducible refine (XBrought.calls x8_1 x11_2 t117 _ ?side1 A13.out).mono ?_
        (case side1 => exact HGSix.out.below (hg2_ GE110.out GE111.out))
        rintro e w27 ⟨rfl, hb⟩
        refine ⟨_, rfl, ?_⟩
        replace HO_14 := Aside0.mk (Kd.R_below (kr_ HO_14.out) hb)
        replace BK110 := bb_ BK110.out hb
        replace BK111 := bb_ BK111.out hb
        replace HB := Aside0.mk (below_step (hg2_ GE110.out GE111.out) hb)
        (try clear hb)
        (try clear hb2)
        (try clear hk)
        (try clear hi)
        refine hK.out _ _ ⟨(blk_cell BK110.out 0).trans rfl, (blk_cell BK110.out 1).trans rfl, (blk_cell BK110.out 2).trans rfl, (blk_cell BK110.out 3).trans rfl, (blk_cell BK110.out 4).trans rfl⟩ (fun hHeld => ?_)
        clear hK K
        refine norm_ (a' := ?_) ?_ ?_
        rotate_left
        ·
         show Act.put _ (some 28) _ = _
         simp only [puts_]
         rfl
        refine one_ (i := 9) (N := some 29) (m_ 11 1023) rfl rfl (one_of HT_.out (by kernel_rfl)) (by decide) (fun K hK => ?_)
        refine goes_ Tryd.func58 (by kernel_rfl) rfl #[.agg #[.int .i64 a0_0, .int .u64 a0_1, .int .u64 a0_2, .int .u64 a0_3, .int .u64 a0_4], .int .i64 0, .bool (rdOf false y112 x16_3), .int .i64 t117] (by rfl) rfl rfl ar_ ?_
        with_reducible refine (XNext.calls a0_0 a0_1 a0_2 a0_3 a0_4 0 (rdOf false y112 x16_3) t117 t118 _ A14.out).mono ?_
        rintro e w28 ⟨rfl, hb⟩
        refine ⟨_, rfl, ?_⟩
        replace HO_14 := Aside0.mk (Kd.R_below (kr_ HO_14.out) hb)
        replace BK110 := bb_ BK110.out hb
        replace BK111 := bb_ BK111.out hb
        replace HB := Aside0.mk (below_step (hg2_ GE110.out GE111.out) hb)
        (try clear hb)
        (try clear hb2)
        (try clear hk)
        (try clear hi)
        refine hK.out _ _ ⟨(blk_cell BK110.out 0).trans rfl, (blk_cell BK110.out 1).trans rfl, (blk_cell BK110.out 2).trans rfl, (blk_cell BK110.out 3).trans rfl, (blk_cell BK110.out 4).trans rfl⟩ (fun hHeld => ?_)
        clear hK K
        refine norm_ (a' := ?_) ?_ ?_
        rotate_left
        ·
         show Act.put _ (some 29) _ = _
         simp only [puts_]
         rfl
        refine pq_ 10 (some 30) (m_ 11 2047) (h := ?_)
        refine done_ (done_of HT_.out (by kernel_rfl)) ?_
        try go_wp2
        go_roundg k3
        case measure => have := HK1.out; have := HK2.out; have := HK3.out; omega
        case rel => exact ⟨(wrap64 (x16_3 + 1)), (x112001_3), rs_, H', ⟨by have := HK1.out; have := HK2.out; have := HK3.out; omega⟩, ⟨kr_ HO_14.out⟩, ⟨bk_ BK110.out⟩, ⟨bk_ BK111.out⟩, ⟨by repeat (first | (with_reducible first | exact HB.out | apply ba_ | apply bn_ | apply bd_ | refine below_set ?_ GE110.out | refine below_set ?_ GE111.out) | exact HB.out)⟩⟩
       rw [if_pos c15] at H
       have c15b0 : (t116 != t118) = true := c15
       (try (have c15b1 : decide (t116 = t118) = false := by simpa using c15))
       (try (have c15b2 : (t116 == t118) = false := by simpa using c15))
       (try (have c15b3 : ¬ (t116 = t118) := by simpa using c15))
       clear c15
       replace H := Option.bind_eq_some_iff.mp H
       obtain ⟨t119, A160, H⟩ := H
       replace H : (some (t119, x8_1, true)) = some (r1, r2, r3) := H
       have A16 := Aside0.mk A160
       clear A160
       simp only [Option.some.injEq, Prod.mk.injEq] at H
       obtain ⟨rfl, rfl, rfl⟩ := H
       have p115 : 0 ≤ (x16_3 : Int) := of_decide_eq_true as_
       have q115 : x16_3 < (y112.length : Int) := of_decide_eq_true as_
       obtain ⟨ad115, e115, hx115_0⟩ := Kd.at_bool (Kd.R_reads' HO_14.out).2.2 x16_3 p115 q115
       cases e115
       replace p115 := eq_true p115
       replace q115 := eq_true q115
       try go_wp2
       replace HO_14 := Aside0.mk (Kd.R_drew HO_14.out)
       replace BK110 := Aside0.mk (blk_drew BK110.out)
       replace BK111 := Aside0.mk (blk_drew BK111.out)
       replace HB := Aside0.mk (below_drew1 HB.out)
       refine start_ (n := 11) (S := fun w' => w'.cell? ⟨gb110, 0, none⟩ = some (.int .i64 a0_0) ∧ w'.cell? ⟨gb110, 1, none⟩ = some (.int .u64 a0_1) ∧ w'.cell? ⟨gb110, 2, none⟩ = some (.int .u64 a0_2) ∧ w'.cell? ⟨gb110, 3, none⟩ = some (.int .u64 a0_3) ∧ w'.cell? ⟨gb110, 4, none⟩ = some (.int .u64 a0_4)) (ds := []) (m_ 11 0) (by kernel_rfl) rfl rfl ⟨(blk_cell BK110.out 0).trans rfl, (blk_cell BK110.out 1).trans rfl, (blk_cell BK110.out 2).trans rfl, (blk_cell BK110.out 3).trans rfl, (blk_cell BK110.out 4).trans rfl⟩ (fun hHeld => ?_); refine with_tabW iso_hexes.tab10 iso_hexes.bits10 (fun HT_ HW_ => ?_)
       generalize wr.drew = w17 at HO_14 BK110 BK111 HB hHeld ⊢
       refine pq_ 1 (some 21) (m_ 11 2) (h := ?_)
       refine pq_ 2 (some 22) (m_ 11 6) (h := ?_)
       refine pq_ 5 (some 25) (m_ 11 38) (h := ?_)
       refine pq_ 6 (some 26) (m_ 11 102) (h := ?_)
       refine pq_ 7 (some 27) (m_ 11 230) (h := ?_)
       refine tq5_ 0 (some 20) (m_ 11 231) (h := ?_)
       refine tq5_ 4 (some 24) (m_ 11 247) (h := ?_)
       refine one_ (i := 3) (N := some 23) (m_ 11 255) rfl rfl (one_of HT_.out (by kernel_rfl)) (by decide) (fun K hK => ?_)
       refine goes_ Tryd.func58 (by kernel_rfl) rfl #[.agg #[.int .i64 a0_0, .int .u64 a0_1, .int .u64 a0_2, .int .u64 a0_3, .int .u64 a0_4], .int .i64 0, .bool (rdOf false y112 x16_3), .int .i64 x11_2] (by rfl) rfl rfl ar_ ?_
       with_reducible refine (XNext.calls a0_0 a0_1 a0_2 a0_3 a0_4 0 (rdOf false y112 x16_3) x11_2 t116 _ A12.out).mono ?_
       rintro e w18 ⟨rfl, hb⟩
       refine ⟨_, rfl, ?_⟩
       replace HO_14 := Aside0.mk (Kd.R_below (kr_ HO_14.out) hb)
       replace BK110 := bb_ BK110.out hb
       replace BK111 := bb_ BK111.out hb
       replace HB := Aside0.mk (below_step (hg2_ GE110.out GE111.out) hb)
       (try clear hb)
       (try clear hb2)
       (try clear hk)
       (try clear hi)
       refine hK.out _ _ ⟨(blk_cell BK110.out 0).trans rfl, (blk_cell BK110.out 1).trans rfl, (blk_cell BK110.out 2).trans rfl, (blk_cell BK110.out 3).trans rfl, (blk_cell BK110.out 4).trans rfl⟩ (fun hHeld => ?_)
       clear hK K
       refine norm_ (a' := ?_) ?_ ?_
       rotate_left
       ·
        show Act.put _ (some 23) _ = _
        simp only [puts_]
        rfl
       refine one_ (i := 8) (N := some 28) (m_ 11 511) rfl rfl (one_of HT_.out (by kernel_rfl)) (by decide) (fun K hK => ?_)
       refine goes_ Tryd.func57 (by kernel_rfl) rfl #[.int .i64 x8_1, .int .i64 x11_2] (by rfl) rfl rfl ar_ ?_
       with_reducible refine (XBrought.calls x8_1 x11_2 t117 _ ?side1 A13.out).mono ?_
       (case side1 => exact HGSix.out.below (hg2_ GE110.out GE111.out))
       rintro e w19 ⟨rfl, hb⟩
       refine ⟨_, rfl, ?_⟩
       replace HO_14 := Aside0.mk (Kd.R_below (kr_ HO_14.out) hb)
       replace BK110 := bb_ BK110.out hb
       replace BK111 := bb_ BK111.out hb
       replace HB := Aside0.mk (below_step (hg2_ GE110.out GE111.out) hb)
       (try clear hb)
       (try clear hb2)
       (try clear hk)
       (try clear hi)
       refine hK.out _ _ ⟨(blk_cell BK110.out 0).trans rfl, (blk_cell BK110.out 1).trans rfl, (blk_cell BK110.out 2).trans rfl, (blk_cell BK110.out 3).trans rfl, (blk_cell BK110.out 4).trans rfl⟩ (fun hHeld => ?_)
       clear hK K
       refine norm_ (a' := ?_) ?_ ?_
       rotate_left
       ·
        show Act.put _ (some 28) _ = _
        simp only [puts_]
        rfl
       refine one_ (i := 9) (N := some 29) (m_ 11 1023) rfl rfl (one_of HT_.out (by kernel_rfl)) (by decide) (fun K hK => ?_)
       refine goes_ Tryd.func58 (by kernel_rfl) rfl #[.agg #[.int .i64 a0_0, .int .u64 a0_1, .int .u64 a0_2, .int .u64 a0_3, .int .u64 a0_4], .int .i64 0, .bool (rdOf false y112 x16_3), .int .i64 t117] (by rfl) rfl rfl ar_ ?_
       with_reducible refine (XNext.calls a0_0 a0_1 a0_2 a0_3 a0_4 0 (rdOf false y112 x16_3) t117 t118 _ A14.out).mono ?_
       rintro e w20 ⟨rfl, hb⟩
       refine ⟨_, rfl, ?_⟩
       replace HO_14 := Aside0.mk (Kd.R_below (kr_ HO_14.out) hb)
       replace BK110 := bb_ BK110.out hb
       replace BK111 := bb_ BK111.out hb
       replace HB := Aside0.mk (below_step (hg2_ GE110.out GE111.out) hb)
       (try clear hb)
       (try clear hb2)
       (try clear hk)
       (try clear hi)
       refine hK.out _ _ ⟨(blk_cell BK110.out 0).trans rfl, (blk_cell BK110.out 1).trans rfl, (blk_cell BK110.out 2).trans rfl, (blk_cell BK110.out 3).trans rfl, (blk_cell BK110.out 4).trans rfl⟩ (fun hHeld => ?_)
       clear hK K
       refine norm_ (a' := ?_) ?_ ?_
       rotate_left
       ·
        show Act.put _ (some 29) _ = _
        simp only [puts_]
        rfl
       refine pq_ 10 (some 30) (m_ 11 2047) (h := ?_)
       refine done_ (done_of HT_.out (by kernel_rfl)) ?_
       try go_wp2_with (first | ((with_reducible refine gate_callee (f := 88) rfl ?_); refine goesL_ (some 33) rfl rfl Tryd.func88 (by kernel_rfl) rfl #[.int .i64 x11_2, .bool (rdOf false y112 x16_3)] rfl ar_ ?_; (with_reducible refine (XPattern.calls x11_2 (rdOf false y112 x16_3) t119 _ ?side1 A16.out).mono ?_); (case side1 => exact HGSix.out.below (hg2_ GE110.out GE111.out)); rintro e w21 ⟨v120, rfl, ho0, hb⟩; refine ⟨_, rfl, ?_⟩; have HO121 := Aside0.mk (Kd.R_lower ho0 (below_size (hg2_ GE110.out GE111.out))); replace HO_14 := Aside0.mk (Kd.R_below (kr_ HO_14.out) hb); replace BK110 := bb_ BK110.out hb; replace BK111 := bb_ BK111.out hb; replace HB := Aside0.mk (below_step (hg2_ GE110.out GE111.out) hb); (try clear hb); (try clear hb2); (try clear hk); (try clear hi); (try clear ho0); obtain ⟨Ao22, co22, eo22⟩ := Kd.R_slice HO121.out; subst eo22; have hnb23 := NB111_110.out; have hnc23 := NB110_111.out; obtain ⟨hcz24_0, hcz24_1⟩ := cz2_ BK111.out; obtain ⟨hfz24_0, hfz24_1⟩ := fz2_ BK111.out))
       refine bodyPost_ret (results_ct rfl _ _ gb111 37 #[.slice Ao22 t119.length co22, .int .i64 x8_1] (0, 0) _ rfl (by (with_reducible repeat (first | apply bN_ | apply bD_ | apply bA_)); refine blk_put (cs := #[.slice Ao22 t119.length co22, .int .i64 x112001_3]) ?_ 1 _ rfl; (with_reducible repeat (first | apply bN_ | apply bD_ | apply bA_)); refine blk_put (cs := #[.slice none 0 0, .int .i64 x112001_3]) ?_ 0 _ rfl; (with_reducible repeat (first | apply bN_ | apply bD_ | apply bA_)); exact BK111.out) Tryd.underlying37 rfl (by kernel_rfl)) rfl ?_
       exact ⟨_, by first | rfl | (simp [errW_none, errW_some] <;> rfl) | (simp [*, errW_none, errW_some] <;> rfl), by (with_reducible repeat (first | apply Kd.R_alloc | apply Kd.R_drewN | apply Kd.R_drew)); exact Kd.R_mono (Kd.R_far (p := ⟨gb111, 1, none⟩) (Kd.R_far (p := ⟨gb111, 0, none⟩) (Kd.R_types HO121.out BK111.out (by decide)) (fun _ hk => hk.2) (.slice Ao22 t119.length co22)) (fun _ hk => hk.2) (.int .i64 x8_1)) (fun _ hk => trivial), by repeat (first | (with_reducible first | exact HB.out | apply ba_ | apply bn_ | apply bd_ | refine below_set ?_ GE110.out | refine below_set ?_ GE111.out) | exact HB.out)⟩
mutual
def iso_triangles.l0 : Nat → List (S65) → Int → Int → Int → Int → Int → Int → Int → Option ((List (S65)) × Int × Bool)
 | 0, _, _, _, _, _, _, _, _ => none
 | k + 1, x4, x19, x20, x142000, x142001, x142002, x142003, x142004 => if x20 < x19 then ((some (([false, true] : List Bool) : List Bool)).bind fun y147 => (iso_triangles.l1 k x4 x20 x19 x20 y147 (y147.length : Int) 0 x142000 x142001 x142002 x142003 x142004)) else (some (([] : List (S65)), 0, false))
def iso_triangles.l1 : Nat → List (S65) → Int → Int → Int → List Bool → Int → Int → Int → Int → Int → Int → Int → Option ((List (S65)) × Int × Bool)
 | 0, _, _, _, _, _, _, _, _, _, _, _, _ => none
 | k + 1, x4, x6, x19, x20, x23, x24, x25, x142000, x142001, x142002, x142003, x142004 => if x25 < x24 then (if 0 ≤ x25 then (if x25 < (x23.length : Int) then ((XNext.f x142000 x142001 x142002 x142003 x142004 0 (rdOf false x23 x25) x6).bind fun t151 => ((XNext.f x142000 x142001 x142002 x142003 x142004 1 (rdOf false x23 x25) x6).bind fun t152 => (if (t151 == t152) = true then (iso_triangles.l1 k x4 x6 x19 x20 x23 x24 (wrap64 (x25 + 1)) x142000 x142001 x142002 x142003 x142004) else (if 0 ≤ x6 then (if x6 ≤ (x4.length : Int) then ((XClone.f (x4.take (x6 : Int).toNat)).bind fun t157 => (if rdOf false x23 x25 = true then (if t157.length < 5864062014805 then ((XOf.f (t157 ++ [(⟨(⟨0, 0⟩ : S63), 0⟩ : S65)])).bind fun t163 => (some (t163, 1, true))) else (none)) else ((XOf.f t157).bind fun t166 => (some (t166, 1, true))))) else (none)) else (none))))) else (none)) else (none)) else (iso_triangles.l0 k x4 x19 (wrap64 (x20 + 1)) x142000 x142001 x142002 x142003 x142004)
end
def iso_triangles.f (k : Nat) (a0_0 : Int) (a0_1 : Int) (a0_2 : Int) (a0_3 : Int) (a0_4 : Int) : Option ((List (S65)) × Int × Bool) := (XBeside.f a0_0 0 0 0).bind fun bt143 => (iso_triangles.l0 k bt143.1 (wrap64 ((bt143.1.length : Int) + 1)) 0 a0_0 a0_1 a0_2 a0_3 a0_4)
def iso_triangles.T8 : Bool × List (List Nat × List Nat) := (true, [([], []), ([], []), ([], []), ([0, 1, 2], [0, 1, 2]), ([], []), ([], []), ([], []), ([4, 5, 6, 3], [4, 5, 6]), ([3, 7], [3, 7])])
def iso_triangles.B8 : List Nat := [0, 0, 0, 7, 0, 0, 0, 127, 255]
theorem iso_triangles.tab8 : rtab .any (opsOf Tryd.f55 8) = iso_triangles.T8 := by kernel_rfl
theorem iso_triangles.bits8 : waitsOk iso_triangles.T8.2 iso_triangles.B8 = true := by kernel_rfl
theorem iso_triangles.calls (k : Nat) (a0_0 : Int) (a0_1 : Int) (a0_2 : Int) (a0_3 : Int) (a0_4 : Int) (r1 : List (S65)) (r2 : Int) (r3 : Bool) (w : World) (hGSix : Six w) (h : iso_triangles.f k a0_0 a0_1 a0_2 a0_3 a0_4 = some (r1, r2, r3)) :
  Calls Tryd.prog 55 #[.agg #[.int .i64 a0_0, .int .u64 a0_1, .int .u64 a0_2, .int .u64 a0_3, .int .u64 a0_4]] w fun e w' => ∃ v0_ : Value, e = .returned (.tuple #[.agg #[v0_, .int .i64 r2], .bool r3]) ∧ Kd.R k65 65 w' w.heap.size (fun _ => True) v0_ r1 ∧ Below w.heap.size w w' := by
 have hu29 := Tryd.underlying29
 have hu37 := Tryd.underlying37
 have hu65 := Tryd.underlying65
 have HB := Aside0.mk (Below.refl w.heap.size w)
 have HGSix := Aside0.mk hGSix
 clear hGSix
 have H : ((XBeside.f a0_0 0 0 0).bind fun bt143 => (iso_triangles.l0 k bt143.1 (wrap64 ((bt143.1.length : Int) + 1)) 0 a0_0 a0_1 a0_2 a0_3 a0_4)) = some (r1, r2, r3) := h
 clear h
 replace H := Option.bind_eq_some_iff.mp H
 obtain ⟨⟨t143, t146⟩, A20, H⟩ := H
 replace H : (iso_triangles.l0 k t143 (wrap64 ((t143.length : Int) + 1)) 0 a0_0 a0_1 a0_2 a0_3 a0_4) = some (r1, r2, r3) := H
 have A2 := Aside0.mk A20
 clear A20
 have H' := Aside0.mk H
 clear H
 go_enter Tryd.func55, Tryd.ntmps55
 go_wp2_with (first | ((with_reducible refine gate_dst (N := 1) rfl ?_); refine bx_ 1 #[.int .i64 a0_0, .int .u64 a0_1, .int .u64 a0_2, .int .u64 a0_3, .int .u64 a0_4] 29 ?_; intro gb141 hg w3 hbox hb; have BK141 := Aside0.mk (hbox); have GW141 := Aside0.mk ((by rw [hg]; exact (below_size hb_) : w.heap.size ≤ gb141)); have GE141 := GW141; replace HB := Aside0.mk (below_step hb_ hb); clear hb hbox hg) | ((with_reducible refine gate_dst (N := 2) rfl ?_); refine bx_ 2 #[.slice none 0 0, .int .i64 0] 37 ?_; intro gb142 hg w4 hbox hb; have BK142 := Aside0.mk (hbox); have GW142 := Aside0.mk ((by rw [hg]; exact (below_size (hg_ GE141.out)) : w.heap.size ≤ gb142)); have GE142 := GW142; have NB141_142 := Aside0.mk ((by rw [hg]; exact ne1_ BK141.out : gb141 ≠ gb142)); have NB142_141 := Aside0.mk ((by rw [hg]; exact ne2_ BK141.out : gb142 ≠ gb141)); replace BK141 := bb_ BK141.out hb; replace HB := Aside0.mk (below_step (hg_ GE141.out) hb); clear hb hbox hg; have hnb5 := NB141_142.out; have hnc5 := NB142_141.out; obtain ⟨hcz6_0, hcz6_1, hcz6_2, hcz6_3, hcz6_4⟩ := cz5_ BK141.out; obtain ⟨hfz6_0, hfz6_1, hfz6_2, hfz6_3, hfz6_4⟩ := fz5_ BK141.out) | ((with_reducible refine gate_callee (f := 89) rfl ?_); refine goesL_ (some 14) rfl rfl Tryd.func89 (by kernel_rfl) rfl #[.int .i64 a0_0, .agg #[.int .i64 0, .int .i64 0, .int .i64 0]] rfl ar_ ?_; (with_reducible refine (XBeside.calls a0_0 0 0 0 t143 t146 _ ?side1 (by first | with_reducible exact A2.out | (have q_ := A2.out; rw [← Nbq25.out] at q_; exact q_))).mono ?_); (case side1 => exact HGSix.out.below (hg2_ GE141.out GE142.out)); rintro e w7 ⟨v144, rfl, ho0, hb⟩; refine ⟨_, rfl, ?_⟩; have HO145 := Aside0.mk (Kd.R_lower ho0 (below_size (hg2_ GE141.out GE142.out))); replace BK141 := bb_ BK141.out hb; replace BK142 := bb_ BK142.out hb; replace HB := Aside0.mk (below_step (hg2_ GE141.out GE142.out) hb); (try clear hb); (try clear hb2); (try clear hk); (try clear hi); (try clear ho0); (try simp only [errW_none, errW_some]); obtain ⟨Ao8, co8, eo8⟩ := Kd.R_slice HO145.out; subst eo8))
 go_loopg [20] k (fun kq v20 w' => ∃ (x20_1 : Int) (x143001_1 : Int), v20 = .int .i64 x20_1 ∧ Aside0 (iso_triangles.l0 kq t143 (wrap64 ((t143.length : Int) + 1)) x20_1 a0_0 a0_1 a0_2 a0_3 a0_4 = some (r1, r2, r3)) ∧ Aside0 (kq ≤ k) ∧ Aside0 (Kd.R k65 65 w' w.heap.size (fun _ => True) (.slice Ao8 t143.length co8) t143) ∧ Aside0 (w'.heap[gb141]? = some (.cells #[.int .i64 a0_0, .int .u64 a0_1, .int .u64 a0_2, .int .u64 a0_3, .int .u64 a0_4] 29 (0, 0))) ∧ Aside0 (w'.heap[gb142]? = some (.cells #[(.slice none 0 0), .int .i64 x143001_1] 37 (0, 0))) ∧ Aside0 (Below w.heap.size w w'))
 case atStart => exact ⟨(0), (0), rs_, H', ⟨Nat.le_refl _⟩, ⟨kr_ HO145.out⟩, ⟨bk_ BK141.out⟩, ⟨bk_ BK142.out⟩, ⟨by repeat (first | (with_reducible first | exact HB.out | apply ba_ | apply bn_ | apply bd_ | refine below_set ?_ GE141.out | refine below_set ?_ GE142.out) | exact HB.out)⟩⟩
 case round =>
  clear H'
  try clear p2
  try clear c5
  try clear p6
  try clear c8
  try clear hcz6_0
  try clear hcz6_1
  try clear hcz6_2
  try clear hcz6_3
  try clear hcz6_4
  try clear hfz6_0
  try clear hfz6_1
  try clear hfz6_2
  try clear hfz6_3
  try clear hfz6_4
  obtain ⟨x20_1, x143001_1, rfl, HA, HK1, HO_4, BK141, BK142, HB⟩ := hrel
  cases gk with
  | zero => exact absurd HA.out (by simp [iso_triangles.l0])
  | succ k1 =>
   have H := HA.out
   clear HA
   simp only [iso_triangles.l0] at H
   by_cases c9 : x20_1 < (wrap64 ((t143.length : Int) + 1))
   rotate_left
   ·
    rw [if_neg c9] at H
    have c9b0 : decide (x20_1 < (wrap64 ((t143.length : Int) + 1))) = false := decide_eq_false c9
    clear c9
    simp only [Option.some.injEq, Prod.mk.injEq] at H
    obtain ⟨rfl, rfl, rfl⟩ := H
    have hnb51 := NB142_141.out
    have hnc51 := NB141_142.out
    obtain ⟨hcz52_0, hcz52_1⟩ := cz2_ BK142.out
    obtain ⟨hfz52_0, hfz52_1⟩ := fz2_ BK142.out
    go_wp2
    refine bodyPost_ret (results_ct rfl _ _ gb142 37 #[.slice none 0 0, .int .i64 0] (0, 0) _ rfl (by (with_reducible repeat (first | apply bN_ | apply bD_ | apply bA_)); refine blk_put (cs := #[.slice none 0 0, .int .i64 x143001_1]) ?_ 1 _ rfl; (with_reducible repeat (first | apply bN_ | apply bD_ | apply bA_)); refine blk_put (cs := #[.slice none 0 0, .int .i64 x143001_1]) ?_ 0 _ rfl; (with_reducible repeat (first | apply bN_ | apply bD_ | apply bA_)); exact BK142.out) Tryd.underlying37 rfl (by kernel_rfl)) rfl ?_
    exact ⟨_, by first | rfl | (simp [errW_none, errW_some] <;> rfl) | (simp [*, errW_none, errW_some] <;> rfl), by first | exact Kd.R_nil _ _ _ _ _ | exact Kd.N_nil _ _ _ _ _ | exact Kd.V_nil _ _ _ _ _ | exact Kd.Q_nil _ _ _ _ _ | exact Kd.S_nil _ _ _ _ _, by repeat (first | (with_reducible first | exact HB.out | apply ba_ | apply bn_ | apply bd_ | refine below_set ?_ GE141.out | refine below_set ?_ GE142.out) | exact HB.out)⟩
   rw [if_pos c9] at H
   have c9b0 : decide (x20_1 < (wrap64 ((t143.length : Int) + 1))) = true := decide_eq_true c9
   clear c9
   obtain ⟨y147, hy147⟩ : ∃ y_ : List Bool, y_ = (([false, true] : List Bool)) := ⟨_, rfl⟩
   replace H : (iso_triangles.l1 k1 t143 x20_1 (wrap64 ((t143.length : Int) + 1)) x20_1 y147 (y147.length : Int) 0 a0_0 a0_1 a0_2 a0_3 a0_4) = some (r1, r2, r3) := by first | (rw [hy147]; with_reducible exact H) | (have H2_ := (Option.bind_some _ _).symm.trans H; rw [hy147]; with_reducible exact H2_) | (have H2_ := (Option.bind_some _ _).symm.trans H; with_reducible exact H2_) | with_reducible exact H | (rw [hy147]; exact H) | exact H
   have Ny147 := Aside0.mk hy147
   clear hy147
   have H' := Aside0.mk H
   clear H
   go_wp2_with (first | ((with_reducible refine gate_dst (N := 23) rfl ?_); refine rs1_ Kd.bool 4 23 ([false, true] : List Bool) [.bool false, .bool true] (Reps.one (show Kd.M Kd.bool _ _ _ false [.bool false] from rfl) (Reps.one (show Kd.M Kd.bool _ _ _ true [.bool true] from rfl) (Reps.none _ _))) ?_; intro v148 w10 ho11 hb; (first | rw [← Ny147.out] at ho11 | (simp only [Int.reduceToNat] at ho11; rw [← Ny147.out] at ho11)); have HO149 := Aside0.mk (Kd.R_lower ho11 (below_size (hg2_ GE141.out GE142.out))); replace HO_4 := Aside0.mk (Kd.R_below (kr_ HO_4.out) hb); replace BK141 := bb_ BK141.out hb; replace BK142 := bb_ BK142.out hb; replace HB := Aside0.mk (below_step (hg2_ GE141.out GE142.out) hb); clear hb ho11; obtain ⟨Ao12, co12, eo12⟩ := Kd.R_slice HO149.out; subst eo12))
   go_loopg [25] k1 (fun kq v25 w' => ∃ (x25_2 : Int) (x143001_2 : Int), v25 = .int .i64 x25_2 ∧ Aside0 (iso_triangles.l1 kq t143 x20_1 (wrap64 ((t143.length : Int) + 1)) x20_1 y147 (y147.length : Int) x25_2 a0_0 a0_1 a0_2 a0_3 a0_4 = some (r1, r2, r3)) ∧ Aside0 (kq ≤ k1) ∧ Aside0 (Kd.R k65 65 w' w.heap.size (fun _ => True) (.slice Ao8 t143.length co8) t143) ∧ Aside0 (Kd.R Kd.bool 4 w' w.heap.size (fun _ => True) (.slice Ao12 y147.length co12) y147) ∧ Aside0 (w'.heap[gb141]? = some (.cells #[.int .i64 a0_0, .int .u64 a0_1, .int .u64 a0_2, .int .u64 a0_3, .int .u64 a0_4] 29 (0, 0))) ∧ Aside0 (w'.heap[gb142]? = some (.cells #[(.slice none 0 0), .int .i64 x143001_2] 37 (0, 0))) ∧ Aside0 (Below w.heap.size w w'))
   case atStart => exact ⟨(0), (x143001_1), rs_, H', ⟨Nat.le_refl _⟩, ⟨kr_ HO_4.out⟩, ⟨kr_ HO149.out⟩, ⟨bk_ BK141.out⟩, ⟨bk_ BK142.out⟩, ⟨by repeat (first | (with_reducible first | exact HB.out | apply ba_ | apply bn_ | apply bd_ | refine below_set ?_ GE141.out | refine below_set ?_ GE142.out) | exact HB.out)⟩⟩
   case round =>
    clear H'
    try clear p2
    try clear c5
    try clear p6
    try clear c8
    try clear c9
    try clear c9b0
    try clear hcz6_0
    try clear hcz6_1
    try clear hcz6_2
    try clear hcz6_3
    try clear hcz6_4
    try clear hfz6_0
    try clear hfz6_1
    try clear hfz6_2
    try clear hfz6_3
    try clear hfz6_4
    try clear p2
    try clear p6
    obtain ⟨x25_2, x143001_2, rfl, HA, HK2, HO_4, HO_23, BK141, BK142, HB⟩ := hrel
    cases gk with
    | zero => exact absurd HA.out (by simp [iso_triangles.l1])
    | succ k2 =>
     have H := HA.out
     clear HA
     simp only [iso_triangles.l1] at H
     by_cases c13 : x25_2 < (y147.length : Int)
     rotate_left
     ·
      rw [if_neg c13] at H
      have c13b0 : decide (x25_2 < (y147.length : Int)) = false := decide_eq_false c13
      clear c13
      have H' := Aside0.mk H
      clear H
      go_wp2
      go_roundg k2
      case measure => have := HK1.out; have := HK2.out; omega
      case rel => exact ⟨(wrap64 (x20_1 + 1)), (x143001_2), rs_, H', ⟨by have := HK1.out; have := HK2.out; omega⟩, ⟨kr_ HO_4.out⟩, ⟨bk_ BK141.out⟩, ⟨bk_ BK142.out⟩, ⟨by repeat (first | (with_reducible first | exact HB.out | apply ba_ | apply bn_ | apply bd_ | refine below_set ?_ GE141.out | refine below_set ?_ GE142.out) | exact HB.out)⟩⟩
     rw [if_pos c13] at H
     have c13b0 : decide (x25_2 < (y147.length : Int)) = true := decide_eq_true c13
     clear c13
     by_cases c14 : 0 ≤ x25_2
     rotate_left
     ·
      rw [if_neg c14] at H
      exact absurd H (by simp)
     rw [if_pos c14] at H
     have c14b0 : decide (0 ≤ x25_2) = true := decide_eq_true c14
     clear c14
     by_cases c15 : x25_2 < (y147.length : Int)
     rotate_left
     ·
      rw [if_neg c15] at H
      exact absurd H (by simp)
     rw [if_pos c15] at H
     have c15b0 : decide (x25_2 < (y147.length : Int)) = true := decide_eq_true c15
     clear c15
     replace H := Option.bind_eq_some_iff.mp H
     obtain ⟨t151, A160, H⟩ := H
     replace H : ((XNext.f a0_0 a0_1 a0_2 a0_3 a0_4 1 (rdOf false y147 x25_2) x20_1).bind fun t152 => (if (t151 == t152) = true then (iso_triangles.l1 k2 t143 x20_1 (wrap64 ((t143.length : Int) + 1)) x20_1 y147 (y147.length : Int) (wrap64 (x25_2 + 1)) a0_0 a0_1 a0_2 a0_3 a0_4) else (if 0 ≤ x20_1 then (if x20_1 ≤ (t143.length : Int) then ((XClone.f (t143.take (x20_1 : Int).toNat)).bind fun t157 => (if rdOf false y147 x25_2 = true then (if t157.length < 5864062014805 then ((XOf.f (t157 ++ [(⟨(⟨0, 0⟩ : S63), 0⟩ : S65)])).bind fun t163 => (some (t163, 1, true))) else (none)) else ((XOf.f t157).bind fun t166 => (some (t166, 1, true))))) else (none)) else (none)))) = some (r1, r2, r3) := H
     have A16 := Aside0.mk A160
     clear A160
     replace H := Option.bind_eq_some_iff.mp H
     obtain ⟨t152, A170, H⟩ := H
     replace H : (if (t151 == t152) = true then (iso_triangles.l1 k2 t143 x20_1 (wrap64 ((t143.length : Int) + 1)) x20_1 y147 (y147.length : Int) (wrap64 (x25_2 + 1)) a0_0 a0_1 a0_2 a0_3 a0_4) else (if 0 ≤ x20_1 then (if x20_1 ≤ (t143.length : Int) then ((XClone.f (t143.take (x20_1 : Int).toNat)).bind fun t157 => (if rdOf false y147 x25_2 = true then (if t157.length < 5864062014805 then ((XOf.f (t157 ++ [(⟨(⟨0, 0⟩ : S63), 0⟩ : S65)])).bind fun t163 => (some (t163, 1, true))) else (none)) else ((XOf.f t157).bind fun t166 => (some (t166, 1, true))))) else (none)) else (none))) = some (r1, r2, r3) := H
     have A17 := Aside0.mk A170
     clear A170
     by_cases c18 : (t151 == t152) = true
     ·
      rw [if_pos c18] at H
      have c18b0 : (t151 == t152) = true := c18
      (try (have c18b1 : decide (t151 = t152) = true := by simpa using c18))
      (try (have c18b2 : (t151 == t152) = true := by simpa using c18))
      clear c18
      have H' := Aside0.mk H
      clear H
      have p150 : 0 ≤ (x25_2 : Int) := of_decide_eq_true as_
      have q150 : x25_2 < (y147.length : Int) := of_decide_eq_true as_
      obtain ⟨ad150, e150, hx150_0⟩ := Kd.at_bool (Kd.R_reads' HO_23.out).2.2 x25_2 p150 q150
      cases e150
      replace p150 := eq_true p150
      replace q150 := eq_true q150
      try go_wp2
      replace HO_4 := Aside0.mk (Kd.R_drew HO_4.out)
      replace HO_23 := Aside0.mk (Kd.R_drew HO_23.out)
      replace BK141 := Aside0.mk (blk_drew BK141.out)
      replace BK142 := Aside0.mk (blk_drew BK142.out)
      replace HB := Aside0.mk (below_drew1 HB.out)
      refine start_ (n := 9) (S := fun w' => w'.cell? ⟨gb141, 0, none⟩ = some (.int .i64 a0_0) ∧ w'.cell? ⟨gb141, 1, none⟩ = some (.int .u64 a0_1) ∧ w'.cell? ⟨gb141, 2, none⟩ = some (.int .u64 a0_2) ∧ w'.cell? ⟨gb141, 3, none⟩ = some (.int .u64 a0_3) ∧ w'.cell? ⟨gb141, 4, none⟩ = some (.int .u64 a0_4)) (ds := []) (m_ 9 0) (by kernel_rfl) rfl rfl ⟨(blk_cell BK141.out 0).trans rfl, (blk_cell BK141.out 1).trans rfl, (blk_cell BK141.out 2).trans rfl, (blk_cell BK141.out 3).trans rfl, (blk_cell BK141.out 4).trans rfl⟩ (fun hHeld => ?_); refine with_tabW iso_triangles.tab8 iso_triangles.bits8 (fun HT_ HW_ => ?_)
      generalize wr.drew = w19 at HO_4 HO_23 BK141 BK142 HB hHeld ⊢
      refine pq_ 1 (some 30) (m_ 9 2) (h := ?_)
      refine pq_ 2 (some 31) (m_ 9 6) (h := ?_)
      refine pq_ 5 (some 34) (m_ 9 38) (h := ?_)
      refine pq_ 6 (some 35) (m_ 9 102) (h := ?_)
      refine tq5_ 0 (some 29) (m_ 9 103) (h := ?_)
      refine tq5_ 4 (some 33) (m_ 9 119) (h := ?_)
      refine one_ (i := 3) (N := some 32) (m_ 9 127) rfl rfl (one_of HT_.out (by kernel_rfl)) (by decide) (fun K hK => ?_)
      refine goes_ Tryd.func58 (by kernel_rfl) rfl #[.agg #[.int .i64 a0_0, .int .u64 a0_1, .int .u64 a0_2, .int .u64 a0_3, .int .u64 a0_4], .int .i64 0, .bool (rdOf false y147 x25_2), .int .i64 x20_1] (by rfl) rfl rfl ar_ ?_
      with_reducible refine (XNext.calls a0_0 a0_1 a0_2 a0_3 a0_4 0 (rdOf false y147 x25_2) x20_1 t151 _ (by first | with_reducible exact A16.out | (have q_ := A16.out; rw [← Nbq25.out] at q_; exact q_))).mono ?_
      rintro e w20 ⟨rfl, hb⟩
      refine ⟨_, rfl, ?_⟩
      replace HO_4 := Aside0.mk (Kd.R_below (kr_ HO_4.out) hb)
      replace HO_23 := Aside0.mk (Kd.R_below (kr_ HO_23.out) hb)
      replace BK141 := bb_ BK141.out hb
      replace BK142 := bb_ BK142.out hb
      replace HB := Aside0.mk (below_step (hg2_ GE141.out GE142.out) hb)
      (try clear hb)
      (try clear hb2)
      (try clear hk)
      (try clear hi)
      refine hK.out _ _ ⟨(blk_cell BK141.out 0).trans rfl, (blk_cell BK141.out 1).trans rfl, (blk_cell BK141.out 2).trans rfl, (blk_cell BK141.out 3).trans rfl, (blk_cell BK141.out 4).trans rfl⟩ (fun hHeld => ?_)
      clear hK K
      refine norm_ (a' := ?_) ?_ ?_
      rotate_left
      ·
       show Act.put _ (some 32) _ = _
       simp only [puts_]
       rfl
      refine one_ (i := 7) (N := some 36) (m_ 9 255) rfl rfl (one_of HT_.out (by kernel_rfl)) (by decide) (fun K hK => ?_)
      refine goes_ Tryd.func58 (by kernel_rfl) rfl #[.agg #[.int .i64 a0_0, .int .u64 a0_1, .int .u64 a0_2, .int .u64 a0_3, .int .u64 a0_4], .int .i64 1, .bool (rdOf false y147 x25_2), .int .i64 x20_1] (by rfl) rfl rfl ar_ ?_
      with_reducible refine (XNext.calls a0_0 a0_1 a0_2 a0_3 a0_4 1 (rdOf false y147 x25_2) x20_1 t152 _ (by first | with_reducible exact A17.out | (have q_ := A17.out; rw [← Nbq25.out] at q_; exact q_))).mono ?_
      rintro e w21 ⟨rfl, hb⟩
      refine ⟨_, rfl, ?_⟩
      replace HO_4 := Aside0.mk (Kd.R_below (kr_ HO_4.out) hb)
      replace HO_23 := Aside0.mk (Kd.R_below (kr_ HO_23.out) hb)
      replace BK141 := bb_ BK141.out hb
      replace BK142 := bb_ BK142.out hb
      replace HB := Aside0.mk (below_step (hg2_ GE141.out GE142.out) hb)
      (try clear hb)
      (try clear hb2)
      (try clear hk)
      (try clear hi)
      refine hK.out _ _ ⟨(blk_cell BK141.out 0).trans rfl, (blk_cell BK141.out 1).trans rfl, (blk_cell BK141.out 2).trans rfl, (blk_cell BK141.out 3).trans rfl, (blk_cell BK141.out 4).trans rfl⟩ (fun hHeld => ?_)
      clear hK K
      refine norm_ (a' := ?_) ?_ ?_
      rotate_left
      ·
       show Act.put _ (some 36) _ = _
       simp only [puts_]
       rfl
      refine pq_ 8 (some 37) (m_ 9 511) (h := ?_)
      refine done_ (done_of HT_.out (by kernel_rfl)) ?_
      try go_wp2
      go_roundg k2
      case measure => have := HK1.out; have := HK2.out; omega
      case rel => exact ⟨(wrap64 (x25_2 + 1)), (x143001_2), rs_, H', ⟨by have := HK1.out; have := HK2.out; omega⟩, ⟨kr_ HO_4.out⟩, ⟨kr_ HO_23.out⟩, ⟨bk_ BK141.out⟩, ⟨bk_ BK142.out⟩, ⟨by repeat (first | (with_reducible first | exact HB.out | apply ba_ | apply bn_ | apply bd_ | refine below_set ?_ GE141.out | refine below_set ?_ GE142.out) | exact HB.out)⟩⟩
     rw [if_neg c18] at H
     have c18b0 : (t151 == t152) = false := by simpa using c18
     (try (have c18b1 : decide (t151 = t152) = false := by simpa using c18))
     (try (have c18b2 : (t151 == t152) = false := by simpa using c18))
     (try (have c18b3 : ¬ (t151 = t152) := by simpa using c18))
     clear c18
     by_cases c22 : 0 ≤ x20_1
     rotate_left
     ·
      rw [if_neg c22] at H
      exact absurd H (by simp)
     rw [if_pos c22] at H
     have c22b0 := eq_true c22
     have c22b1 : decide (0 ≤ x20_1) = true := decide_eq_true c22
     clear c22
     by_cases c23 : x20_1 ≤ (t143.length : Int)
     rotate_left
     ·
      rw [if_neg c23] at H
      exact absurd H (by simp)
     rw [if_pos c23] at H
     have c23b0 := eq_true c23
     have c23b1 : decide (x20_1 ≤ (t143.length : Int)) = true := decide_eq_true c23
     clear c23
     obtain ⟨y153, hy153⟩ : ∃ y_ : List (S65), y_ = (t143.take (x20_1 : Int).toNat) := ⟨_, rfl⟩
     replace H : ((XClone.f y153).bind fun t157 => (if rdOf false y147 x25_2 = true then (if t157.length < 5864062014805 then ((XOf.f (t157 ++ [(⟨(⟨0, 0⟩ : S63), 0⟩ : S65)])).bind fun t163 => (some (t163, 1, true))) else (none)) else ((XOf.f t157).bind fun t166 => (some (t166, 1, true))))) = some (r1, r2, r3) := by first | (rw [hy153]; with_reducible exact H) | (have H2_ := (Option.bind_some _ _).symm.trans H; rw [hy153]; with_reducible exact H2_) | (have H2_ := (Option.bind_some _ _).symm.trans H; with_reducible exact H2_) | with_reducible exact H | (rw [hy153]; exact H) | exact H
     have Ny153 := Aside0.mk hy153
     clear hy153
     replace H := Option.bind_eq_some_iff.mp H
     obtain ⟨t157, A240, H⟩ := H
     replace H : (if rdOf false y147 x25_2 = true then (if t157.length < 5864062014805 then ((XOf.f (t157 ++ [(⟨(⟨0, 0⟩ : S63), 0⟩ : S65)])).bind fun t163 => (some (t163, 1, true))) else (none)) else ((XOf.f t157).bind fun t166 => (some (t166, 1, true)))) = some (r1, r2, r3) := H
     have A24 := Aside0.mk A240
     clear A240
     obtain ⟨bq25, hbq25⟩ : ∃ b_ : Bool, b_ = (rdOf false y147 x25_2) := ⟨_, rfl⟩
     replace H : (if bq25 = true then (if t157.length < 5864062014805 then ((XOf.f (t157 ++ [(⟨(⟨0, 0⟩ : S63), 0⟩ : S65)])).bind fun t163 => (some (t163, 1, true))) else (none)) else ((XOf.f t157).bind fun t166 => (some (t166, 1, true)))) = some (r1, r2, r3) := by rw [← hbq25] at H; exact H
     have Nbq25 := Aside0.mk hbq25
     clear hbq25
     by_cases c26 : bq25 = true
     rotate_left
     ·
      replace c26 := Bool.eq_false_iff.mpr c26
      subst c26
      have H1 : ((XOf.f t157).bind fun t166 => (some (t166, 1, true))) = some (r1, r2, r3) := by rw [if_neg (show ¬ (false = true) by decide)] at H; exact H
      clear H
      have H := H1
      clear H1
      replace H := Option.bind_eq_some_iff.mp H
      obtain ⟨t166, A400, H⟩ := H
      replace H : (some (t166, 1, true)) = some (r1, r2, r3) := H
      have A40 := Aside0.mk A400
      clear A400
      simp only [Option.some.injEq, Prod.mk.injEq] at H
      obtain ⟨rfl, rfl, rfl⟩ := H
      have p150 : 0 ≤ (x25_2 : Int) := of_decide_eq_true as_
      have q150 : x25_2 < (y147.length : Int) := of_decide_eq_true as_
      obtain ⟨ad150, e150, hx150_0⟩ := Kd.at_bool (Kd.R_reads' HO_23.out).2.2 x25_2 p150 q150
      (try rw [← Nbq25.out] at hx150_0)
      cases e150
      replace p150 := eq_true p150
      replace q150 := eq_true q150
      try go_wp2
      replace HO_4 := Aside0.mk (Kd.R_drew HO_4.out)
      replace HO_23 := Aside0.mk (Kd.R_drew HO_23.out)
      replace BK141 := Aside0.mk (blk_drew BK141.out)
      replace BK142 := Aside0.mk (blk_drew BK142.out)
      replace HB := Aside0.mk (below_drew1 HB.out)
      refine start_ (n := 9) (S := fun w' => w'.cell? ⟨gb141, 0, none⟩ = some (.int .i64 a0_0) ∧ w'.cell? ⟨gb141, 1, none⟩ = some (.int .u64 a0_1) ∧ w'.cell? ⟨gb141, 2, none⟩ = some (.int .u64 a0_2) ∧ w'.cell? ⟨gb141, 3, none⟩ = some (.int .u64 a0_3) ∧ w'.cell? ⟨gb141, 4, none⟩ = some (.int .u64 a0_4)) (ds := []) (m_ 9 0) (by kernel_rfl) rfl rfl ⟨(blk_cell BK141.out 0).trans rfl, (blk_cell BK141.out 1).trans rfl, (blk_cell BK141.out 2).trans rfl, (blk_cell BK141.out 3).trans rfl, (blk_cell BK141.out 4).trans rfl⟩ (fun hHeld => ?_); refine with_tabW iso_triangles.tab8 iso_triangles.bits8 (fun HT_ HW_ => ?_)
      generalize wr.drew = w41 at HO_4 HO_23 BK141 BK142 HB hHeld ⊢
      refine pq_ 1 (some 30) (m_ 9 2) (h := ?_)
      refine pq_ 2 (some 31) (m_ 9 6) (h := ?_)
      refine pq_ 5 (some 34) (m_ 9 38) (h := ?_)
      refine pq_ 6 (some 35) (m_ 9 102) (h := ?_)
      refine tq5_ 0 (some 29) (m_ 9 103) (h := ?_)
      refine tq5_ 4 (some 33) (m_ 9 119) (h := ?_)
      refine one_ (i := 3) (N := some 32) (m_ 9 127) rfl rfl (one_of HT_.out (by kernel_rfl)) (by decide) (fun K hK => ?_)
      refine goes_ Tryd.func58 (by kernel_rfl) rfl #[.agg #[.int .i64 a0_0, .int .u64 a0_1, .int .u64 a0_2, .int .u64 a0_3, .int .u64 a0_4], .int .i64 0, .bool false, .int .i64 x20_1] (by rfl) rfl rfl ar_ ?_
      with_reducible refine (XNext.calls a0_0 a0_1 a0_2 a0_3 a0_4 0 false x20_1 t151 _ (by first | with_reducible exact A16.out | (have q_ := A16.out; rw [← Nbq25.out] at q_; exact q_))).mono ?_
      rintro e w42 ⟨rfl, hb⟩
      refine ⟨_, rfl, ?_⟩
      replace HO_4 := Aside0.mk (Kd.R_below (kr_ HO_4.out) hb)
      replace HO_23 := Aside0.mk (Kd.R_below (kr_ HO_23.out) hb)
      replace BK141 := bb_ BK141.out hb
      replace BK142 := bb_ BK142.out hb
      replace HB := Aside0.mk (below_step (hg2_ GE141.out GE142.out) hb)
      (try clear hb)
      (try clear hb2)
      (try clear hk)
      (try clear hi)
      refine hK.out _ _ ⟨(blk_cell BK141.out 0).trans rfl, (blk_cell BK141.out 1).trans rfl, (blk_cell BK141.out 2).trans rfl, (blk_cell BK141.out 3).trans rfl, (blk_cell BK141.out 4).trans rfl⟩ (fun hHeld => ?_)
      clear hK K
      refine norm_ (a' := ?_) ?_ ?_
      rotate_left
      ·
       show Act.put _ (some 32) _ = _
       simp only [puts_]
       rfl
      refine one_ (i := 7) (N := some 36) (m_ 9 255) rfl rfl (one_of HT_.out (by kernel_rfl)) (by decide) (fun K hK => ?_)
      refine goes_ Tryd.func58 (by kernel_rfl) rfl #[.agg #[.int .i64 a0_0, .int .u64 a0_1, .int .u64 a0_2, .int .u64 a0_3, .int .u64 a0_4], .int .i64 1, .bool false, .int .i64 x20_1] (by rfl) rfl rfl ar_ ?_
      with_reducible refine (XNext.calls a0_0 a0_1 a0_2 a0_3 a0_4 1 false x20_1 t152 _ (by first | with_reducible exact A17.out | (have q_ := A17.out; rw [← Nbq25.out] at q_; exact q_))).mono ?_
      rintro e w43 ⟨rfl, hb⟩
      refine ⟨_, rfl, ?_⟩
      replace HO_4 := Aside0.mk (Kd.R_below (kr_ HO_4.out) hb)
      replace HO_23 := Aside0.mk (Kd.R_below (kr_ HO_23.out) hb)
      replace BK141 := bb_ BK141.out hb
      replace BK142 := bb_ BK142.out hb
      replace HB := Aside0.mk (below_step (hg2_ GE141.out GE142.out) hb)
      (try clear hb)
      (try clear hb2)
      (try clear hk)
      (try clear hi)
      refine hK.out _ _ ⟨(blk_cell BK141.out 0).trans rfl, (blk_cell BK141.out 1).trans rfl, (blk_cell BK141.out 2).trans rfl, (blk_cell BK141.out 3).trans rfl, (blk_cell BK141.out 4).trans rfl⟩ (fun hHeld => ?_)
      clear hK K
      refine norm_ (a' := ?_) ?_ ?_
      rotate_left
      ·
       show Act.put _ (some 36) _ = _
       simp only [puts_]
       rfl
      refine pq_ 8 (some 37) (m_ 9 511) (h := ?_)
      refine done_ (done_of HT_.out (by kernel_rfl)) ?_
      have q44 : (x20_1 : Int) ≤ ((t143.length : Int) : Int) := of_decide_eq_true as_
      obtain ⟨i044, hi044, _, hsz44, _⟩ := info_parts info65
      have hroom44 : t143.length ≤ co8 := (Kd.R_reads' HO_4.out).2.1
      have hC44 : Kd.C k65 _ Ao8 t143.length t143 := (Kd.R_reads' HO_4.out).2.2
      have hcut44 := cut_to (P := Tryd.prog) 34 65 .i64 Tryd.underlying34 hi044 Ao8 t143.length co8 x20_1 (of_decide_eq_true as_) q44 hroom44
      have hr44 := Kd.C_take (m := (x20_1 : Int).toNat) hC44 (by omega)
      have hy44 : y153.length = (x20_1 : Int).toNat := (by rw [Ny153.out, List.length_take]; omega)
      rw [← Ny153.out] at hr44
      rw [← hy44] at hcut44
      have HR156 := Aside0.mk hr44
      have HC156 := Aside0.mk (show y153.length ≤ co8 from by omega)
      clear hr44 hC44 hroom44 hi044 hsz44
      have KY44 := Aside0.mk hy44
      clear hy44
      have KL44 := Aside0.mk (show (x20_1 : Int).toNat ≤ t143.length from by omega)
      replace q44 := eq_true q44
      try go_wp2_with (first | ((with_reducible refine gate_callee (f := 73) rfl ?_); refine goesL_ (some 41) rfl rfl Tryd.func73 (by kernel_rfl) rfl #[.slice Ao8 y153.length co8] rfl ar_ ?_; (with_reducible refine (XClone.calls _ _ y153 t157 _ ?side1 ?side2 (by first | with_reducible exact A24.out | (have q_ := A24.out; rw [← Nbq25.out] at q_; exact q_))).mono ?_); (case side1 => repeat (first | exact (by repeat (first | (with_reducible exact HR156.out) | (with_reducible refine Kd.C_alloc ?_ _) | (with_reducible refine Kd.C_drewN ?_ _) | (with_reducible refine Kd.C_drew ?_) | exact HR156.out)) | (with_reducible refine Kd.C_alloc ?_ _) | (with_reducible refine Kd.C_drewN ?_ _) | (with_reducible refine Kd.C_drew ?_))); (case side2 => exact HC156.out); rintro e w45 ⟨v158, rfl, ho0, hb⟩; refine ⟨_, rfl, ?_⟩; have HO159 := Aside0.mk (Kd.R_lower (Kd.R_new' ho0 (Kd.R_lt (kr_ HO_4.out))) (below_size (hg2_ GE141.out GE142.out))); replace HO_4 := Aside0.mk (Kd.R_elder' (kr_ HO_4.out) (Kd.R_base ho0) hb); replace HO_23 := Aside0.mk (Kd.R_below (kr_ HO_23.out) hb); replace BK141 := bb_ BK141.out hb; replace BK142 := bb_ BK142.out hb; replace HR156 := Aside0.mk (Kd.C_below (by repeat (first | (with_reducible exact HR156.out) | (with_reducible refine Kd.C_alloc ?_ _) | (with_reducible refine Kd.C_drewN ?_ _) | (with_reducible refine Kd.C_drew ?_) | exact HR156.out)) hb); replace HB := Aside0.mk (below_step (hg2_ GE141.out GE142.out) hb); (try clear hb); (try clear hb2); (try clear hk); (try clear hi); (try clear ho0); obtain ⟨Ao46, co46, eo46⟩ := Kd.R_slice HO159.out; subst eo46) | ((with_reducible refine gate_callee (f := 37) rfl ?_); refine goesL_ (some 48) rfl rfl Tryd.func37 (by kernel_rfl) rfl #[.slice Ao46 t157.length co46] rfl ar_ ?_; (with_reducible refine (XOf.calls _ _ t157 t166 _ ?side1 ?side2 (by first | with_reducible exact A40.out | (have q_ := A40.out; rw [← Nbq25.out] at q_; exact q_))).mono ?_); (case side1 => repeat (first | exact (Kd.R_reads' HO159.out).2.2 | (with_reducible refine Kd.C_alloc ?_ _) | (with_reducible refine Kd.C_drewN ?_ _) | (with_reducible refine Kd.C_drew ?_))); (case side2 => exact (Kd.R_reads' HO159.out).2.1); rintro e w47 ⟨v167, rfl, ho0, hb⟩; refine ⟨_, rfl, ?_⟩; have HO168 := Aside0.mk (Kd.R_lower (Kd.R_new' (Kd.R_new' ho0 (Kd.R_lt (kr_ HO_4.out))) (Kd.R_lt (kr_ HO159.out))) (below_size (hg2_ GE141.out GE142.out))); replace HO_4 := Aside0.mk (Kd.R_elder' (kr_ HO_4.out) (Kd.R_base ho0) hb); replace HO_23 := Aside0.mk (Kd.R_below (kr_ HO_23.out) hb); replace HO159 := Aside0.mk (Kd.R_elder' (kr_ HO159.out) (Kd.R_base ho0) hb); replace BK141 := bb_ BK141.out hb; replace BK142 := bb_ BK142.out hb; replace HR156 := Aside0.mk (Kd.C_below (by repeat (first | (with_reducible exact HR156.out) | (with_reducible refine Kd.C_alloc ?_ _) | (with_reducible refine Kd.C_drewN ?_ _) | (with_reducible refine Kd.C_drew ?_) | exact HR156.out)) hb); replace HB := Aside0.mk (below_step (hg2_ GE141.out GE142.out) hb); (try clear hb); (try clear hb2); (try clear hk); (try clear hi); (try clear ho0); obtain ⟨Ao48, co48, eo48⟩ := Kd.R_slice HO168.out; subst eo48; have hnb49 := NB142_141.out; have hnc49 := NB141_142.out; obtain ⟨hcz50_0, hcz50_1⟩ := cz2_ BK142.out; obtain ⟨hfz50_0, hfz50_1⟩ := fz2_ BK142.out))
      refine bodyPost_ret (results_ct rfl _ _ gb142 37 #[.slice Ao48 t166.length co48, .int .i64 1] (0, 0) _ rfl (by (with_reducible repeat (first | apply bN_ | apply bD_ | apply bA_)); refine blk_put (cs := #[.slice Ao48 t166.length co48, .int .i64 x143001_2]) ?_ 1 _ rfl; (with_reducible repeat (first | apply bN_ | apply bD_ | apply bA_)); refine blk_put (cs := #[.slice none 0 0, .int .i64 x143001_2]) ?_ 0 _ rfl; (with_reducible repeat (first | apply bN_ | apply bD_ | apply bA_)); exact BK142.out) Tryd.underlying37 rfl (by kernel_rfl)) rfl ?_
      exact ⟨_, by first | rfl | (simp [errW_none, errW_some] <;> rfl) | (simp [*, errW_none, errW_some] <;> rfl), by (with_reducible repeat (first | apply Kd.R_alloc | apply Kd.R_drewN | apply Kd.R_drew)); exact Kd.R_mono (Kd.R_far (p := ⟨gb142, 1, none⟩) (Kd.R_far (p := ⟨gb142, 0, none⟩) (Kd.R_types HO168.out BK142.out (by decide)) (fun _ hk => hk.2) (.slice Ao48 t166.length co48)) (fun _ hk => hk.2) (.int .i64 1)) (fun _ hk => trivial), by repeat (first | (with_reducible first | exact HB.out | apply ba_ | apply bn_ | apply bd_ | refine below_set ?_ GE141.out | refine below_set ?_ GE142.out) | exact HB.out)⟩
     subst c26
     have H1 : (if t157.length < 5864062014805 then ((XOf.f (t157 ++ [(⟨(⟨0, 0⟩ : S63), 0⟩ : S65)])).bind fun t163 => (some (t163, 1, true))) else (none)) = some (r1, r2, r3) := by rw [if_pos rfl] at H; exact H
     clear H
     have H := H1
     clear H1
     by_cases c27 : t157.length < 5864062014805
     rotate_left
     ·
      rw [if_neg c27] at H
      exact absurd H (by simp)
     rw [if_pos c27] at H
     have LMc27 := Aside0.mk c27
     clear c27
     obtain ⟨y160, hy160⟩ : ∃ y_ : List (S65), y_ = (t157 ++ [(⟨(⟨0, 0⟩ : S63), 0⟩ : S65)]) := ⟨_, rfl⟩
     replace H : ((XOf.f y160).bind fun t163 => (some (t163, 1, true))) = some (r1, r2, r3) := by first | (rw [hy160]; with_reducible exact H) | (have H2_ := (Option.bind_some _ _).symm.trans H; rw [hy160]; with_reducible exact H2_) | (have H2_ := (Option.bind_some _ _).symm.trans H; with_reducible exact H2_) | with_reducible exact H | (rw [hy160]; exact H) | exact H
     have Ny160 := Aside0.mk hy160
     clear hy160
     replace H := Option.bind_eq_some_iff.mp H
     obtain ⟨t163, A280, H⟩ := H
     replace H : (some (t163, 1, true)) = some (r1, r2, r3) := H
     have A28 := Aside0.mk A280
     clear A280
     simp only [Option.some.injEq, Prod.mk.injEq] at H
     obtain ⟨rfl, rfl, rfl⟩ := H
     have p150 : 0 ≤ (x25_2 : Int) := of_decide_eq_true as_
     have q150 : x25_2 < (y147.length : Int) := of_decide_eq_true as_
     obtain ⟨ad150, e150, hx150_0⟩ := Kd.at_bool (Kd.R_reads' HO_23.out).2.2 x25_2 p150 q150
     (try rw [← Nbq25.out] at hx150_0)
     cases e150
     replace p150 := eq_true p150
     replace q150 := eq_true q150
     try go_wp2
     replace HO_4 := Aside0.mk (Kd.R_drew HO_4.out)
     replace HO_23 := Aside0.mk (Kd.R_drew HO_23.out)
     replace BK141 := Aside0.mk (blk_drew BK141.out)
     replace BK142 := Aside0.mk (blk_drew BK142.out)
     replace HB := Aside0.mk (below_drew1 HB.out)
     refine start_ (n := 9) (S := fun w' => w'.cell? ⟨gb141, 0, none⟩ = some (.int .i64 a0_0) ∧ w'.cell? ⟨gb141, 1, none⟩ = some (.int .u64 a0_1) ∧ w'.cell? ⟨gb141, 2, none⟩ = some (.int .u64 a0_2) ∧ w'.cell? ⟨gb141, 3, none⟩ = some (.int .u64 a0_3) ∧ w'.cell? ⟨gb141, 4, none⟩ = some (.int .u64 a0_4)) (ds := []) (m_ 9 0) (by kernel_rfl) rfl rfl ⟨(blk_cell BK141.out 0).trans rfl, (blk_cell BK141.out 1).trans rfl, (blk_cell BK141.out 2).trans rfl, (blk_cell BK141.out 3).trans rfl, (blk_cell BK141.out 4).trans rfl⟩ (fun hHeld => ?_); refine with_tabW iso_triangles.tab8 iso_triangles.bits8 (fun HT_ HW_ => ?_)
     generalize wr.drew = w29 at HO_4 HO_23 BK141 BK142 HB hHeld ⊢
     refine pq_ 1 (some 30) (m_ 9 2) (h := ?_)
     refine pq_ 2 (some 31) (m_ 9 6) (h := ?_)
     refine pq_ 5 (some 34) (m_ 9 38) (h := ?_)
     refine pq_ 6 (some 35) (m_ 9 102) (h := ?_)
     refine tq5_ 0 (some 29) (m_ 9 103) (h := ?_)
     refine tq5_ 4 (some 33) (m_ 9 119) (h := ?_)
     refine one_ (i := 3) (N := some 32) (m_ 9 127) rfl rfl (one_of HT_.out (by kernel_rfl)) (by decide) (fun K hK => ?_)
     refine goes_ Tryd.func58 (by kernel_rfl) rfl #[.agg #[.int .i64 a0_0, .int .u64 a0_1, .int .u64 a0_2, .int .u64 a0_3, .int .u64 a0_4], .int .i64 0, .bool true, .int .i64 x20_1] (by rfl) rfl rfl ar_ ?_
     with_reducible refine (XNext.calls a0_0 a0_1 a0_2 a0_3 a0_4 0 true x20_1 t151 _ (by first | with_reducible exact A16.out | (have q_ := A16.out; rw [← Nbq25.out] at q_; exact q_))).mono ?_
     rintro e w30 ⟨rfl, hb⟩
     refine ⟨_, rfl, ?_⟩
     replace HO_4 := Aside0.mk (Kd.R_below (kr_ HO_4.out) hb)
     replace HO_23 := Aside0.mk (Kd.R_below (kr_ HO_23.out) hb)
     replace BK141 := bb_ BK141.out hb
     replace BK142 := bb_ BK142.out hb
     replace HB := Aside0.mk (below_step (hg2_ GE141.out GE142.out) hb)
     (try clear hb)
     (try clear hb2)
     (try clear hk)
     (try clear hi)
     refine hK.out _ _ ⟨(blk_cell BK141.out 0).trans rfl, (blk_cell BK141.out 1).trans rfl, (blk_cell BK141.out 2).trans rfl, (blk_cell BK141.out 3).trans rfl, (blk_cell BK141.out 4).trans rfl⟩ (fun hHeld => ?_)
     clear hK K
     refine norm_ (a' := ?_) ?_ ?_
     rotate_left
     ·
      show Act.put _ (some 32) _ = _
      simp only [puts_]
      rfl
     refine one_ (i := 7) (N := some 36) (m_ 9 255) rfl rfl (one_of HT_.out (by kernel_rfl)) (by decide) (fun K hK => ?_)
     refine goes_ Tryd.func58 (by kernel_rfl) rfl #[.agg #[.int .i64 a0_0, .int .u64 a0_1, .int .u64 a0_2, .int .u64 a0_3, .int .u64 a0_4], .int .i64 1, .bool true, .int .i64 x20_1] (by rfl) rfl rfl ar_ ?_
     with_reducible refine (XNext.calls a0_0 a0_1 a0_2 a0_3 a0_4 1 true x20_1 t152 _ (by first | with_reducible exact A17.out | (have q_ := A17.out; rw [← Nbq25.out] at q_; exact q_))).mono ?_
     rintro e w31 ⟨rfl, hb⟩
     refine ⟨_, rfl, ?_⟩
     replace HO_4 := Aside0.mk (Kd.R_below (kr_ HO_4.out) hb)
     replace HO_23 := Aside0.mk (Kd.R_below (kr_ HO_23.out) hb)
     replace BK141 := bb_ BK141.out hb
     replace BK142 := bb_ BK142.out hb
     replace HB := Aside0.mk (below_step (hg2_ GE141.out GE142.out) hb)
     (try clear hb)
     (try clear hb2)
     (try clear hk)
     (try clear hi)
     refine hK.out _ _ ⟨(blk_cell BK141.out 0).trans rfl, (blk_cell BK141.out 1).trans rfl, (blk_cell BK141.out 2).trans rfl, (blk_cell BK141.out 3).trans rfl, (blk_cell BK141.out 4).trans rfl⟩ (fun hHeld => ?_)
     clear hK K
     refine norm_ (a' := ?_) ?_ ?_
     rotate_left
     ·
      show Act.put _ (some 36) _ = _
      simp only [puts_]
      rfl
     refine pq_ 8 (some 37) (m_ 9 511) (h := ?_)
     refine done_ (done_of HT_.out (by kernel_rfl)) ?_
     have q32 : (x20_1 : Int) ≤ ((t143.length : Int) : Int) := of_decide_eq_true as_
     obtain ⟨i032, hi032, _, hsz32, _⟩ := info_parts info65
     have hroom32 : t143.length ≤ co8 := (Kd.R_reads' HO_4.out).2.1
     have hC32 : Kd.C k65 _ Ao8 t143.length t143 := (Kd.R_reads' HO_4.out).2.2
     have hcut32 := cut_to (P := Tryd.prog) 34 65 .i64 Tryd.underlying34 hi032 Ao8 t143.length co8 x20_1 (of_decide_eq_true as_) q32 hroom32
     have hr32 := Kd.C_take (m := (x20_1 : Int).toNat) hC32 (by omega)
     have hy32 : y153.length = (x20_1 : Int).toNat := (by rw [Ny153.out, List.length_take]; omega)
     rw [← Ny153.out] at hr32
     rw [← hy32] at hcut32
     have HR156 := Aside0.mk hr32
     have HC156 := Aside0.mk (show y153.length ≤ co8 from by omega)
     clear hr32 hC32 hroom32 hi032 hsz32
     have KY32 := Aside0.mk hy32
     clear hy32
     have KL32 := Aside0.mk (show (x20_1 : Int).toNat ≤ t143.length from by omega)
     replace q32 := eq_true q32
     try go_wp2_with (first | ((with_reducible refine gate_callee (f := 73) rfl ?_); refine goesL_ (some 41) rfl rfl Tryd.func73 (by kernel_rfl) rfl #[.slice Ao8 y153.length co8] rfl ar_ ?_; (with_reducible refine (XClone.calls _ _ y153 t157 _ ?side1 ?side2 (by first | with_reducible exact A24.out | (have q_ := A24.out; rw [← Nbq25.out] at q_; exact q_))).mono ?_); (case side1 => repeat (first | exact (by repeat (first | (with_reducible exact HR156.out) | (with_reducible refine Kd.C_alloc ?_ _) | (with_reducible refine Kd.C_drewN ?_ _) | (with_reducible refine Kd.C_drew ?_) | exact HR156.out)) | (with_reducible refine Kd.C_alloc ?_ _) | (with_reducible refine Kd.C_drewN ?_ _) | (with_reducible refine Kd.C_drew ?_))); (case side2 => exact HC156.out); rintro e w33 ⟨v158, rfl, ho0, hb⟩; refine ⟨_, rfl, ?_⟩; have HO159 := Aside0.mk (Kd.R_lower (Kd.R_new' ho0 (Kd.R_lt (kr_ HO_4.out))) (below_size (hg2_ GE141.out GE142.out))); replace HO_4 := Aside0.mk (Kd.R_elder' (kr_ HO_4.out) (Kd.R_base ho0) hb); replace HO_23 := Aside0.mk (Kd.R_below (kr_ HO_23.out) hb); replace BK141 := bb_ BK141.out hb; replace BK142 := bb_ BK142.out hb; replace HR156 := Aside0.mk (Kd.C_below (by repeat (first | (with_reducible exact HR156.out) | (with_reducible refine Kd.C_alloc ?_ _) | (with_reducible refine Kd.C_drewN ?_ _) | (with_reducible refine Kd.C_drew ?_) | exact HR156.out)) hb); replace HB := Aside0.mk (below_step (hg2_ GE141.out GE142.out) hb); (try clear hb); (try clear hb2); (try clear hk); (try clear hi); (try clear ho0)) | ((with_reducible refine gate_builtin (b := .append) (xs := #[.tmp 43, .tmp 45]) rfl ?_); at_builtin; refine Kd.R_append k65 (w0 := w) w.heap.size rfl (.tmp 43) (.tmp 45) 34 65 (.agg #[(.int .i64 0), (.int .i64 0), (.int .i64 0)]) 24 rfl Tryd.underlying34 info65 rfl (by decide) (by omega) v158 t157 (⟨(⟨0, 0⟩ : S63), 0⟩ : S65) [.int .i64 0, .int .i64 0, .int .i64 0] (fun k_ => some k_ ≠ (.slice Ao8 t143.length co8 : Value).ownBlock) (fun _ => False) rfl rfl ?aP (fun _ hk => hk.elim) ?aF ?aO ?aB ?aS ?aL ?_; (case aP => exact k65_mkM _ _ _ (⟨(⟨0, 0⟩ : S63), 0⟩ : S65)); (case aB => exact (hg2_ GE141.out GE142.out)); (case aF => exact (fun k_ hk => Kd.fresh' (Kd.R_lt (kr_ HO_4.out)) k_ hk)); (case aO => exact (by (with_reducible repeat (first | apply Kd.R_alloc | apply Kd.R_drewN | apply Kd.R_drew)); exact Kd.R_mono HO159.out (fun _ hk => hk.2))); (case aS => exact (below_size (hg2_ GE141.out GE142.out))); (case aL => have := LMc27.out; omega); intro v161 w34 ho hb hg hat; rw [← Ny160.out] at ho; have HO162 := Aside0.mk (ho); replace HO_23 := Aside0.mk (Kd.R_over' (kr_ HO_23.out) (Kd.R_typed (kr_ HO159.out)) (by decide) hg); replace BK141 := Aside0.mk (blk_grown (g := gb141) (o := .cells #[.int .i64 a0_0, .int .u64 a0_1, .int .u64 a0_2, .int .u64 a0_3, .int .u64 a0_4] 29 (0, 0)) (bk_ BK141.out) hg (Kd.R_ne HO159.out BK141.out (by decide))); replace BK142 := Aside0.mk (blk_grown (g := gb142) (o := .cells #[.slice none 0 0, .int .i64 x143001_2] 37 (0, 0)) (bk_ BK142.out) hg (Kd.R_ne HO159.out BK142.out (by decide))); replace HR156 := Aside0.mk ((show Kd.C k65 w34 Ao8 y153.length y153 from by rw [Ny153.out]; exact Kd.C_take (m := (x20_1 : Int).toNat) ((Kd.R_reads' (Kd.R_after (ok := (fun _ => True)) (kr_ HO_4.out) hg hat)).2.2) KL32.out)); replace HO_4 := Aside0.mk (Kd.R_after (ok := (fun _ => True)) (kr_ HO_4.out) hg hat); replace HB := Aside0.mk (hb); clear HO159; clear ho hb hg hat; obtain ⟨Ao35, co35, eo35⟩ := Kd.R_slice HO162.out; subst eo35) | ((with_reducible refine gate_callee (f := 37) rfl ?_); refine goesL_ (some 48) rfl rfl Tryd.func37 (by kernel_rfl) rfl #[.slice Ao35 y160.length co35] rfl ar_ ?_; (with_reducible refine (XOf.calls _ _ y160 t163 _ ?side1 ?side2 (by first | with_reducible exact A28.out | (have q_ := A28.out; rw [← Nbq25.out] at q_; exact q_))).mono ?_); (case side1 => repeat (first | exact (Kd.R_reads' HO162.out).2.2 | (with_reducible refine Kd.C_alloc ?_ _) | (with_reducible refine Kd.C_drewN ?_ _) | (with_reducible refine Kd.C_drew ?_))); (case side2 => exact (Kd.R_reads' HO162.out).2.1); rintro e w36 ⟨v164, rfl, ho0, hb⟩; refine ⟨_, rfl, ?_⟩; have HO165 := Aside0.mk (Kd.R_lower (Kd.R_new' (Kd.R_new' ho0 (Kd.R_lt (kr_ HO_4.out))) (Kd.R_lt (kr_ HO162.out))) (below_size (hg2_ GE141.out GE142.out))); replace HO_4 := Aside0.mk (Kd.R_elder' (kr_ HO_4.out) (Kd.R_base ho0) hb); replace HO_23 := Aside0.mk (Kd.R_below (kr_ HO_23.out) hb); replace HO162 := Aside0.mk (Kd.R_elder' (kr_ HO162.out) (Kd.R_base ho0) hb); replace BK141 := bb_ BK141.out hb; replace BK142 := bb_ BK142.out hb; replace HR156 := Aside0.mk (Kd.C_below (by repeat (first | (with_reducible exact HR156.out) | (with_reducible refine Kd.C_alloc ?_ _) | (with_reducible refine Kd.C_drewN ?_ _) | (with_reducible refine Kd.C_drew ?_) | exact HR156.out)) hb); replace HB := Aside0.mk (below_step (hg2_ GE141.out GE142.out) hb); (try clear hb); (try clear hb2); (try clear hk); (try clear hi); (try clear ho0); obtain ⟨Ao37, co37, eo37⟩ := Kd.R_slice HO165.out; subst eo37; have hnb38 := NB142_141.out; have hnc38 := NB141_142.out; obtain ⟨hcz39_0, hcz39_1⟩ := cz2_ BK142.out; obtain ⟨hfz39_0, hfz39_1⟩ := fz2_ BK142.out))
     refine bodyPost_ret (results_ct rfl _ _ gb142 37 #[.slice Ao37 t163.length co37, .int .i64 1] (0, 0) _ rfl (by (with_reducible repeat (first | apply bN_ | apply bD_ | apply bA_)); refine blk_put (cs := #[.slice Ao37 t163.length co37, .int .i64 x143001_2]) ?_ 1 _ rfl; (with_reducible repeat (first | apply bN_ | apply bD_ | apply bA_)); refine blk_put (cs := #[.slice none 0 0, .int .i64 x143001_2]) ?_ 0 _ rfl; (with_reducible repeat (first | apply bN_ | apply bD_ | apply bA_)); exact BK142.out) Tryd.underlying37 rfl (by kernel_rfl)) rfl ?_
     exact ⟨_, by first | rfl | (simp [errW_none, errW_some] <;> rfl) | (simp [*, errW_none, errW_some] <;> rfl), by (with_reducible repeat (first | apply Kd.R_alloc | apply Kd.R_drewN | apply Kd.R_drew)); exact Kd.R_mono (Kd.R_far (p := ⟨gb142, 1, none⟩) (Kd.R_far (p := ⟨gb142, 0, none⟩) (Kd.R_types HO165.out BK142.out (by decide)) (fun _ hk => hk.2) (.slice Ao37 t163.length co37)) (fun _ hk => hk.2) (.int .i64 1)) (fun _ hk => trivial), by repeat (first | (with_reducible first | exact HB.out | apply ba_ | apply bn_ | apply bd_ | refine below_set ?_ GE141.out | refine below_set ?_ GE142.out) | exact HB.out)⟩
def iso_Check.f (k : Nat) (a0_0 : Int) (a0_1 : Int) (a0_2 : Int) (a0_3 : Int) (a0_4 : Int) : Option ((List (S65)) × Int × Bool × Option Int) := (XTCheck.f a0_0 a0_1 a0_2 a0_3 a0_4).bind fun t171 => (if t171.isNone = true then (if a0_0 = 1 then ((iso_hexes.f k a0_0 a0_1 a0_2 a0_3 a0_4).bind fun bt173 => (some (bt173.1, bt173.2.1, bt173.2.2, none))) else ((iso_triangles.f k a0_0 a0_1 a0_2 a0_3 a0_4).bind fun bt179 => (some (bt179.1, bt179.2.1, bt179.2.2, none)))) else (none))
theorem iso_Check.calls (k : Nat) (a0_0 : Int) (a0_1 : Int) (a0_2 : Int) (a0_3 : Int) (a0_4 : Int) (r1 : List (S65)) (r2 : Int) (r3 : Bool) (r4 : Option Int) (w : World) (hGSix : Six w) (h : iso_Check.f k a0_0 a0_1 a0_2 a0_3 a0_4 = some (r1, r2, r3, r4)) :
  Calls Tryd.prog 17 #[.agg #[.int .i64 a0_0, .int .u64 a0_1, .int .u64 a0_2, .int .u64 a0_3, .int .u64 a0_4]] w fun e w' => ∃ v0_ : Value, e = .returned (.tuple #[.agg #[v0_, .int .i64 r2], .bool r3, errW r4]) ∧ Kd.R k65 65 w' w.heap.size (fun _ => True) v0_ r1 ∧ Below w.heap.size w w' := by
 have hu29 := Tryd.underlying29
 have hu37 := Tryd.underlying37
 have hu39 := Tryd.underlying39
 have HB := Aside0.mk (Below.refl w.heap.size w)
 have HGSix := Aside0.mk hGSix
 clear hGSix
 have H : ((XTCheck.f a0_0 a0_1 a0_2 a0_3 a0_4).bind fun t171 => (if t171.isNone = true then (if a0_0 = 1 then ((iso_hexes.f k a0_0 a0_1 a0_2 a0_3 a0_4).bind fun bt173 => (some (bt173.1, bt173.2.1, bt173.2.2, none))) else ((iso_triangles.f k a0_0 a0_1 a0_2 a0_3 a0_4).bind fun bt179 => (some (bt179.1, bt179.2.1, bt179.2.2, none)))) else (none))) = some (r1, r2, r3, r4) := h
 clear h
 replace H := Option.bind_eq_some_iff.mp H
 obtain ⟨t171, A20, H⟩ := H
 replace H : (if t171.isNone = true then (if a0_0 = 1 then ((iso_hexes.f k a0_0 a0_1 a0_2 a0_3 a0_4).bind fun bt173 => (some (bt173.1, bt173.2.1, bt173.2.2, none))) else ((iso_triangles.f k a0_0 a0_1 a0_2 a0_3 a0_4).bind fun bt179 => (some (bt179.1, bt179.2.1, bt179.2.2, none)))) else (none)) = some (r1, r2, r3, r4) := H
 have A2 := Aside0.mk A20
 clear A20
 rcases t171 with _ | q172
 rotate_left
 ·
  have H1 : (none) = some (r1, r2, r3, r4) := by rw [if_neg (show ¬ (some q172).isNone = true by simp)] at H; exact H
  clear H
  have H := H1
  clear H1
  try simp only [errW_none, errW_some]
  exact absurd H (by simp)
 have H1 : (if a0_0 = 1 then ((iso_hexes.f k a0_0 a0_1 a0_2 a0_3 a0_4).bind fun bt173 => (some (bt173.1, bt173.2.1, bt173.2.2, none))) else ((iso_triangles.f k a0_0 a0_1 a0_2 a0_3 a0_4).bind fun bt179 => (some (bt179.1, bt179.2.1, bt179.2.2, none)))) = some (r1, r2, r3, r4) := by rw [if_pos (show (none : Option Int).isNone = true by rfl)] at H; exact H
 clear H
 have H := H1
 clear H1
 try simp only [errW_none, errW_some]
 by_cases c3 : a0_0 = 1
 ·
  rw [if_pos c3] at H
  have c3b0 : (a0_0 == 1) = true := beq_iff_eq.mpr c3
  have c3b1 : (a0_0 != 1) = false := bne_eq_false_iff_eq.mpr c3
  clear c3
  replace H := Option.bind_eq_some_iff.mp H
  obtain ⟨⟨t173, t176, t177⟩, A40, H⟩ := H
  replace H : (some (t173, t176, t177, none)) = some (r1, r2, r3, r4) := H
  have A4 := Aside0.mk A40
  clear A40
  simp only [Option.some.injEq, Prod.mk.injEq] at H
  obtain ⟨rfl, rfl, rfl, rfl⟩ := H
  go_enter Tryd.func17, Tryd.ntmps17
  go_wp2_with (first | ((with_reducible refine gate_dst (N := 1) rfl ?_); refine bx_ 1 #[.int .i64 a0_0, .int .u64 a0_1, .int .u64 a0_2, .int .u64 a0_3, .int .u64 a0_4] 29 ?_; intro gb169 hg w5 hbox hb; have BK169 := Aside0.mk (hbox); have GW169 := Aside0.mk ((by rw [hg]; exact (below_size hb_) : w.heap.size ≤ gb169)); have GE169 := GW169; replace HB := Aside0.mk (below_step hb_ hb); clear hb hbox hg) | ((with_reducible refine gate_dst (N := 2) rfl ?_); refine bx_ 2 #[.slice none 0 0, .int .i64 0] 37 ?_; intro gb170 hg w6 hbox hb; have BK170 := Aside0.mk (hbox); have GW170 := Aside0.mk ((by rw [hg]; exact (below_size (hg_ GE169.out)) : w.heap.size ≤ gb170)); have GE170 := GW170; have NB169_170 := Aside0.mk ((by rw [hg]; exact ne1_ BK169.out : gb169 ≠ gb170)); have NB170_169 := Aside0.mk ((by rw [hg]; exact ne2_ BK169.out : gb170 ≠ gb169)); replace BK169 := bb_ BK169.out hb; replace HB := Aside0.mk (below_step (hg_ GE169.out) hb); clear hb hbox hg; have hnb7 := NB169_170.out; have hnc7 := NB170_169.out; obtain ⟨hcz8_0, hcz8_1, hcz8_2, hcz8_3, hcz8_4⟩ := cz5_ BK169.out; obtain ⟨hfz8_0, hfz8_1, hfz8_2, hfz8_3, hfz8_4⟩ := fz5_ BK169.out) | ((with_reducible refine gate_callee (f := 53) rfl ?_); refine goesL_ (some 11) rfl rfl Tryd.func53 (by kernel_rfl) rfl #[.agg #[.int .i64 a0_0, .int .u64 a0_1, .int .u64 a0_2, .int .u64 a0_3, .int .u64 a0_4]] rfl ar_ ?_; (with_reducible refine (XTCheck.calls a0_0 a0_1 a0_2 a0_3 a0_4 none _ A2.out).mono ?_); rintro e w9 ⟨rfl, hb⟩; refine ⟨_, rfl, ?_⟩; replace BK169 := bb_ BK169.out hb; replace BK170 := bb_ BK170.out hb; replace HB := Aside0.mk (below_step (hg2_ GE169.out GE170.out) hb); (try clear hb); (try clear hb2); (try clear hk); (try clear hi); (try simp only [errW_none, errW_some]); obtain ⟨hcz10_0, hcz10_1, hcz10_2, hcz10_3, hcz10_4⟩ := cz5_ BK169.out; obtain ⟨hfz10_0, hfz10_1, hfz10_2, hfz10_3, hfz10_4⟩ := fz5_ BK169.out) | ((with_reducible refine gate_callee (f := 54) rfl ?_); refine goesL_ (some 21) rfl rfl Tryd.func54 (by kernel_rfl) rfl #[.agg #[.int .i64 a0_0, .int .u64 a0_1, .int .u64 a0_2, .int .u64 a0_3, .int .u64 a0_4]] rfl ar_ ?_; (with_reducible refine (iso_hexes.calls k a0_0 a0_1 a0_2 a0_3 a0_4 t173 t176 t177 _ ?side1 A4.out).mono ?_); (case side1 => exact HGSix.out.below (hg2_ GE169.out GE170.out)); rintro e w11 ⟨v174, rfl, ho0, hb⟩; refine ⟨_, rfl, ?_⟩; have HO175 := Aside0.mk (Kd.R_lower ho0 (below_size (hg2_ GE169.out GE170.out))); replace BK169 := bb_ BK169.out hb; replace BK170 := bb_ BK170.out hb; replace HB := Aside0.mk (below_step (hg2_ GE169.out GE170.out) hb); (try clear hb); (try clear hb2); (try clear hk); (try clear hi); (try clear ho0)) | ((with_reducible refine gate_dst (N := 6) rfl ?_); refine bx_ 6 #[.slice none 0 0, .int .i64 0] 37 ?_; intro gb178 hg w12 hbox hb; have BK178 := Aside0.mk (hbox); have GW178 := Aside0.mk ((by rw [hg]; exact (below_size (hg2_ GE169.out GE170.out)) : w.heap.size ≤ gb178)); have GE178 := GW178; have NB169_178 := Aside0.mk ((by rw [hg]; exact ne1_ BK169.out : gb169 ≠ gb178)); have NB178_169 := Aside0.mk ((by rw [hg]; exact ne2_ BK169.out : gb178 ≠ gb169)); have NB170_178 := Aside0.mk ((by rw [hg]; exact ne1_ BK170.out : gb170 ≠ gb178)); have NB178_170 := Aside0.mk ((by rw [hg]; exact ne2_ BK170.out : gb178 ≠ gb170)); replace HO175 := Aside0.mk (Kd.R_below (kr_ HO175.out) hb); replace BK169 := bb_ BK169.out hb; replace BK170 := bb_ BK170.out hb; replace HB := Aside0.mk (below_step (hg2_ GE169.out GE170.out) hb); clear hb hbox hg; obtain ⟨Ao13, co13, eo13⟩ := Kd.R_slice HO175.out; subst eo13; have hnb14 := NB178_169.out; have hnc14 := NB169_178.out; have hnb15 := NB178_170.out; have hnc15 := NB170_178.out; obtain ⟨hcz16_0, hcz16_1⟩ := cz2_ BK178.out; obtain ⟨hfz16_0, hfz16_1⟩ := fz2_ BK178.out; obtain ⟨hcz17_0, hcz17_1⟩ := cz2_ BK170.out; obtain ⟨hfz17_0, hfz17_1⟩ := fz2_ BK170.out))
  refine bodyPost_ret (results_ctt rfl _ _ gb170 37 #[.slice Ao13 t173.length co13, .int .i64 t176] (0, 0) _ rfl (by (with_reducible repeat (first | apply bN_ | apply bD_ | apply bA_)); refine blk_put (cs := #[.slice Ao13 t173.length co13, .int .i64 0]) ?_ 1 _ rfl; (with_reducible repeat (first | apply bN_ | apply bD_ | apply bA_)); refine blk_put (cs := #[.slice none 0 0, .int .i64 0]) ?_ 0 _ rfl; (with_reducible repeat (first | apply bN_ | apply bD_ | apply bA_)); refine blk_far ?_ NB170_178.out _; (with_reducible repeat (first | apply bN_ | apply bD_ | apply bA_)); refine blk_far ?_ NB170_178.out _; (with_reducible repeat (first | apply bN_ | apply bD_ | apply bA_)); exact BK170.out) Tryd.underlying37 rfl (by kernel_rfl)) rfl ?_
  exact ⟨_, by first | rfl | (simp [errW_none, errW_some] <;> rfl) | (simp [*, errW_none, errW_some] <;> rfl), by (with_reducible repeat (first | apply Kd.R_alloc | apply Kd.R_drewN | apply Kd.R_drew)); exact Kd.R_mono (Kd.R_far (p := ⟨gb170, 1, none⟩) (Kd.R_far (p := ⟨gb170, 0, none⟩) (Kd.R_far (p := ⟨gb178, 1, none⟩) (Kd.R_far (p := ⟨gb178, 0, none⟩) (Kd.R_types (Kd.R_types HO175.out BK178.out (by decide)) BK170.out (by decide)) (fun _ hk => hk.1.2) (.slice Ao13 t173.length co13)) (fun _ hk => hk.1.2) (.int .i64 t176)) (fun _ hk => hk.2) (.slice Ao13 t173.length co13)) (fun _ hk => hk.2) (.int .i64 t176)) (fun _ hk => trivial), by repeat (first | (with_reducible first | exact HB.out | apply ba_ | apply bn_ | apply bd_ | refine below_set ?_ GE169.out | refine below_set ?_ GE170.out | refine below_set ?_ GE178.out) | exact HB.out)⟩
 rw [if_neg c3] at H
 have c3b0 : (a0_0 == 1) = false := beq_eq_false_iff_ne.mpr c3
 have c3b1 : (a0_0 != 1) = true := bne_iff_ne.mpr c3
 replace H := Option.bind_eq_some_iff.mp H
 obtain ⟨⟨t179, t182, t183⟩, A180, H⟩ := H
 replace H : (some (t179, t182, t183, none)) = some (r1, r2, r3, r4) := H
 have A18 := Aside0.mk A180
 clear A180
 simp only [Option.some.injEq, Prod.mk.injEq] at H
 obtain ⟨rfl, rfl, rfl, rfl⟩ := H
 go_enter Tryd.func17, Tryd.ntmps17
 go_wp2_with (first | ((with_reducible refine gate_dst (N := 1) rfl ?_); refine bx_ 1 #[.int .i64 a0_0, .int .u64 a0_1, .int .u64 a0_2, .int .u64 a0_3, .int .u64 a0_4] 29 ?_; intro gb169 hg w19 hbox hb; have BK169 := Aside0.mk (hbox); have GW169 := Aside0.mk ((by rw [hg]; exact (below_size hb_) : w.heap.size ≤ gb169)); have GE169 := GW169; replace HB := Aside0.mk (below_step hb_ hb); clear hb hbox hg) | ((with_reducible refine gate_dst (N := 2) rfl ?_); refine bx_ 2 #[.slice none 0 0, .int .i64 0] 37 ?_; intro gb170 hg w20 hbox hb; have BK170 := Aside0.mk (hbox); have GW170 := Aside0.mk ((by rw [hg]; exact (below_size (hg_ GE169.out)) : w.heap.size ≤ gb170)); have GE170 := GW170; have NB169_170 := Aside0.mk ((by rw [hg]; exact ne1_ BK169.out : gb169 ≠ gb170)); have NB170_169 := Aside0.mk ((by rw [hg]; exact ne2_ BK169.out : gb170 ≠ gb169)); replace BK169 := bb_ BK169.out hb; replace HB := Aside0.mk (below_step (hg_ GE169.out) hb); clear hb hbox hg; have hnb21 := NB169_170.out; have hnc21 := NB170_169.out; obtain ⟨hcz22_0, hcz22_1, hcz22_2, hcz22_3, hcz22_4⟩ := cz5_ BK169.out; obtain ⟨hfz22_0, hfz22_1, hfz22_2, hfz22_3, hfz22_4⟩ := fz5_ BK169.out) | ((with_reducible refine gate_callee (f := 53) rfl ?_); refine goesL_ (some 11) rfl rfl Tryd.func53 (by kernel_rfl) rfl #[.agg #[.int .i64 a0_0, .int .u64 a0_1, .int .u64 a0_2, .int .u64 a0_3, .int .u64 a0_4]] rfl ar_ ?_; (with_reducible refine (XTCheck.calls a0_0 a0_1 a0_2 a0_3 a0_4 none _ A2.out).mono ?_); rintro e w23 ⟨rfl, hb⟩; refine ⟨_, rfl, ?_⟩; replace BK169 := bb_ BK169.out hb; replace BK170 := bb_ BK170.out hb; replace HB := Aside0.mk (below_step (hg2_ GE169.out GE170.out) hb); (try clear hb); (try clear hb2); (try clear hk); (try clear hi); (try simp only [errW_none, errW_some]); obtain ⟨hcz24_0, hcz24_1, hcz24_2, hcz24_3, hcz24_4⟩ := cz5_ BK169.out; obtain ⟨hfz24_0, hfz24_1, hfz24_2, hfz24_3, hfz24_4⟩ := fz5_ BK169.out) | ((with_reducible refine gate_callee (f := 55) rfl ?_); refine goesL_ (some 28) rfl rfl Tryd.func55 (by kernel_rfl) rfl #[.agg #[.int .i64 a0_0, .int .u64 a0_1, .int .u64 a0_2, .int .u64 a0_3, .int .u64 a0_4]] rfl ar_ ?_; (with_reducible refine (iso_triangles.calls k a0_0 a0_1 a0_2 a0_3 a0_4 t179 t182 t183 _ ?side1 A18.out).mono ?_); (case side1 => exact HGSix.out.below (hg2_ GE169.out GE170.out)); rintro e w25 ⟨v180, rfl, ho0, hb⟩; refine ⟨_, rfl, ?_⟩; have HO181 := Aside0.mk (Kd.R_lower ho0 (below_size (hg2_ GE169.out GE170.out))); replace BK169 := bb_ BK169.out hb; replace BK170 := bb_ BK170.out hb; replace HB := Aside0.mk (below_step (hg2_ GE169.out GE170.out) hb); (try clear hb); (try clear hb2); (try clear hk); (try clear hi); (try clear ho0)) | ((with_reducible refine gate_dst (N := 8) rfl ?_); refine bx_ 8 #[.slice none 0 0, .int .i64 0] 37 ?_; intro gb184 hg w26 hbox hb; have BK184 := Aside0.mk (hbox); have GW184 := Aside0.mk ((by rw [hg]; exact (below_size (hg2_ GE169.out GE170.out)) : w.heap.size ≤ gb184)); have GE184 := GW184; have NB169_184 := Aside0.mk ((by rw [hg]; exact ne1_ BK169.out : gb169 ≠ gb184)); have NB184_169 := Aside0.mk ((by rw [hg]; exact ne2_ BK169.out : gb184 ≠ gb169)); have NB170_184 := Aside0.mk ((by rw [hg]; exact ne1_ BK170.out : gb170 ≠ gb184)); have NB184_170 := Aside0.mk ((by rw [hg]; exact ne2_ BK170.out : gb184 ≠ gb170)); replace HO181 := Aside0.mk (Kd.R_below (kr_ HO181.out) hb); replace BK169 := bb_ BK169.out hb; replace BK170 := bb_ BK170.out hb; replace HB := Aside0.mk (below_step (hg2_ GE169.out GE170.out) hb); clear hb hbox hg; obtain ⟨Ao27, co27, eo27⟩ := Kd.R_slice HO181.out; subst eo27; have hnb28 := NB184_169.out; have hnc28 := NB169_184.out; have hnb29 := NB184_170.out; have hnc29 := NB170_184.out; obtain ⟨hcz30_0, hcz30_1⟩ := cz2_ BK184.out; obtain ⟨hfz30_0, hfz30_1⟩ := fz2_ BK184.out; obtain ⟨hcz31_0, hcz31_1⟩ := cz2_ BK170.out; obtain ⟨hfz31_0, hfz31_1⟩ := fz2_ BK170.out))
 refine bodyPost_ret (results_ctt rfl _ _ gb170 37 #[.slice Ao27 t179.length co27, .int .i64 t182] (0, 0) _ rfl (by (with_reducible repeat (first | apply bN_ | apply bD_ | apply bA_)); refine blk_put (cs := #[.slice Ao27 t179.length co27, .int .i64 0]) ?_ 1 _ rfl; (with_reducible repeat (first | apply bN_ | apply bD_ | apply bA_)); refine blk_put (cs := #[.slice none 0 0, .int .i64 0]) ?_ 0 _ rfl; (with_reducible repeat (first | apply bN_ | apply bD_ | apply bA_)); refine blk_far ?_ NB170_184.out _; (with_reducible repeat (first | apply bN_ | apply bD_ | apply bA_)); refine blk_far ?_ NB170_184.out _; (with_reducible repeat (first | apply bN_ | apply bD_ | apply bA_)); exact BK170.out) Tryd.underlying37 rfl (by kernel_rfl)) rfl ?_
 exact ⟨_, by first | rfl | (simp [errW_none, errW_some] <;> rfl) | (simp [*, errW_none, errW_some] <;> rfl), by (with_reducible repeat (first | apply Kd.R_alloc | apply Kd.R_drewN | apply Kd.R_drew)); exact Kd.R_mono (Kd.R_far (p := ⟨gb170, 1, none⟩) (Kd.R_far (p := ⟨gb170, 0, none⟩) (Kd.R_far (p := ⟨gb184, 1, none⟩) (Kd.R_far (p := ⟨gb184, 0, none⟩) (Kd.R_types (Kd.R_types HO181.out BK184.out (by decide)) BK170.out (by decide)) (fun _ hk => hk.1.2) (.slice Ao27 t179.length co27)) (fun _ hk => hk.1.2) (.int .i64 t182)) (fun _ hk => hk.2) (.slice Ao27 t179.length co27)) (fun _ hk => hk.2) (.int .i64 t182)) (fun _ hk => trivial), by repeat (first | (with_reducible first | exact HB.out | apply ba_ | apply bn_ | apply bd_ | refine below_set ?_ GE169.out | refine below_set ?_ GE170.out | refine below_set ?_ GE184.out) | exact HB.out)⟩
end H
end Go.Proofs.YtaeenefdbahfoaaDoor
