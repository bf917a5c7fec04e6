/- Parts of the proof of LeafAgain, merged out of our texts by wip/tools/pack.py. -/
import Derived.Test.YtieekbdododkkaaDoorKLeafAgain3
import Derived.Test.YtieekbdododkkaaDoorKLeafAgain1
import Derived.BigRegion
import Derived.Deep.RegionLaw
namespace Go.Proofs.YtieekbdododkkaaDoor
set_option linter.unusedSimpArgs false
set_option linter.unusedVariables false
set_option maxRecDepth 100000
set_option maxHeartbeats 16000000
section
open Go.RowKit Go.Proofs.YtieekbdododkkaaDoorW.PrintWords Go.Proofs.YtieekbdododkkaaDoorW.PrintLast Go.Proofs.YtieekbdododkkaaDoorW.PrintMore
open H
open Go.ChangeMaps Go.MapKept Go.WideShapes
attribute [local go_sem] max2_int min2_int max_two min_two max_three min_three max_four min_four
abbrev S2m (gm mb : Nat) (most : Int) (W : World) : Prop := W.cell? ⟨gm, 1, none⟩ = some (.int .i64 most) ∧ W.cell? ⟨gm, 2, none⟩ = some (.map (some mb))
theorem S2m.of {W : World} {gm mb gk : Nat} {most made : Int} (h1 : W.heap[gm]? = some (memO gk mb most made)) : S2m gm mb most W := ⟨blk_cell h1 1, blk_cell h1 2⟩
abbrev S14 (gx gm mb gy : Nat) (u : Nat → Int) (q0 q1 q2 q3 m : Int) (W : World) : Prop := (W.cell? ⟨gx, 0, none⟩ = some (.int .u16 (u 0)) ∧ W.cell? ⟨gx, 1, none⟩ = some (.int .u16 (u 1)) ∧ W.cell? ⟨gx, 2, none⟩ = some (.int .u16 (u 2)) ∧ W.cell? ⟨gx, 3, none⟩ = some (.int .u16 (u 3)) ∧ W.cell? ⟨gx, 4, none⟩ = some (.int .u16 (u 4)) ∧ W.cell? ⟨gx, 5, none⟩ = some (.int .u16 (u 5)) ∧ W.cell? ⟨gx, 6, none⟩ = some (.int .u16 (u 6)) ∧ W.cell? ⟨gx, 7, none⟩ = some (.int .u16 (u 7))) ∧ W.cell? ⟨gm, 2, none⟩ = some (.map (some mb)) ∧ (W.cell? ⟨gy, 0, none⟩ = some (.int .u32 q0) ∧ W.cell? ⟨gy, 1, none⟩ = some (.int .u32 q1) ∧ W.cell? ⟨gy, 2, none⟩ = some (.int .u32 q2) ∧ W.cell? ⟨gy, 3, none⟩ = some (.int .u32 q3) ∧ W.cell? ⟨gy, 4, none⟩ = some (.int .i64 m))
theorem S14.of {W : World} {gx gm mb gk gy : Nat} {u : Nat → Int} {q0 q1 q2 q3 m most made : Int} (h0 : W.heap[gx]? = some (blkO u 52)) (h1 : W.heap[gm]? = some (memO gk mb most made)) (h2 : W.heap[gy]? = some (keyO q0 q1 q2 q3 m)) : S14 gx gm mb gy u q0 q1 q2 q3 m W :=
  ⟨⟨blk_cell h0 0, blk_cell h0 1, blk_cell h0 2, blk_cell h0 3, blk_cell h0 4, blk_cell h0 5, blk_cell h0 6, blk_cell h0 7⟩, blk_cell h1 2, blk_cell h2 0, blk_cell h2 1, blk_cell h2 2, blk_cell h2 3, blk_cell h2 4⟩
theorem res_newA (l b0 b1 s0 s1 q0 q1 q2 q3 n most made : Int) (L : Kn) (gm mb gk : Nat) (w : World) (hl : 1 ≤ l ∧ l ≤ 3) (h0 : 0 ≤ q0 ∧ q0 < 4294967296) (h1 : 0 ≤ q1 ∧ q1 < 4294967296) (h2 : 0 ≤ q2 ∧ q2 < 4294967296) (h3 : 0 ≤ q3 ∧ q3 < 4294967296) (hn : capN n ≠ 0) (hM : MemoAt w gm mb gk l b0 b1 s0 s1 most made L) (he : noneQ q0 q1 q2 q3 = false) (hv : getK L (q0, q1, q2, q3, (capN n : Int)) = none) (hmd : 0 ≤ made ∧ made < 1000000000000) (hLl : L.length < 1000000000) (hx : n = 1) :
    Calls Tryd.prog 30 #[.pointer (some ⟨gm, 0, none⟩), .agg #[.int .u32 q0, .int .u32 q1, .int .u32 q2, .int .u32 q3], .int .i64 n] w fun e w' => e = .returned (.int .u32 (midF (genG l b0 b1 s0 s1 (capN n) (ofG q0 q1 q2 q3)) 4)) ∧ MemoAt w' gm mb gk l b0 b1 s0 s1 most (made + 1) ((if most ≤ (L.length : Int) then [] else L) ++ (if 0 < most then [((q0, q1, q2, q3, (capN n : Int)), midF (genG l b0 b1 s0 s1 (capN n) (ofG q0 q1 q2 q3)) 4)] else [])) ∧ Fr w w' gm mb := by
  have cOf := fun W => bof_any q0 q1 q2 q3 W h0 h1 h2 h3
  have gb : ∀ k, k < 8 → 0 ≤ ofG q0 q1 q2 q3 k ∧ ofG q0 q1 q2 q3 k < 65536 := fun k _ => ofG_bd _ _ _ _ h0 h1 h2 h3 k
  obtain ⟨em, hem⟩ : ∃ em, em = noneQ q0 q1 q2 q3 := ⟨_, rfl⟩
  have cEmp := fun W => block_Block_Empty.calls (ofG q0 q1 q2 q3 0) (ofG q0 q1 q2 q3 1) (ofG q0 q1 q2 q3 2) (ofG q0 q1 q2 q3 3) (ofG q0 q1 q2 q3 4) (ofG q0 q1 q2 q3 5) (ofG q0 q1 q2 q3 6) (ofG q0 q1 q2 q3 7) em W (by rw [hem]; exact empty_of _ _ _ _ h0 h1 h2 h3)
  obtain ⟨g, hg⟩ : ∃ g, g = ofG q0 q1 q2 q3 := ⟨_, rfl⟩
  rw [← hg] at cOf cEmp gb
  have cMid := fun (j : Nat) W => bmid_any (genG l b0 b1 s0 s1 j g) W (genG_bd l b0 b1 s0 s1 g gb j)
  have cStep := fun (j : Nat) gk W h => bstep_any l b0 b1 s0 s1 (genG l b0 b1 s0 s1 j g) gk W hl (genG_bd l b0 b1 s0 s1 g gb j) h
  have COF := Aside0.mk cOf
  have CEMP := Aside0.mk cEmp
  have CMID := Aside0.mk cMid
  have CSTEP := Aside0.mk cStep
  have lm := blk_lt hM.blk
  have lb := hM.map.lt
  have HM := Aside0.mk hM
  have hpos := capN_pos hn
  have HQ := Aside0.mk (And.intro h0 (And.intro h1 (And.intro h2 h3)))
  have HGG := Aside0.mk hg
  clear cOf cMid cEmp cStep gb hM hn h0 h1 h2 h3 hl hg
  rw [he] at hem
  subst hem
  have hcap : ∀ m : Nat, ((n = 1 ∧ m = 1) ∨ (n = 2 ∧ m = 2) ∨ (2 < n ∧ m = 2)) → capN n = m := fun m h => by unfold capN; (repeat' split) <;> omega
  have HC := Aside0.mk hcap
  have HV := Aside0.mk hv
  clear hcap hv
  have hcase : ∃ m : Nat, (m = 1 ∨ m = 2) ∧ ((n = 1 ∧ m = 1) ∨ (n = 2 ∧ m = 2) ∨ (2 < n ∧ m = 2)) := by
    rcases hpos with h | h | h
    · exact ⟨1, .inl rfl, .inl ⟨h, rfl⟩⟩
    · exact ⟨2, .inr rfl, .inr (.inl ⟨h, rfl⟩)⟩
    · exact ⟨2, .inr rfl, .inr (.inr ⟨h, rfl⟩)⟩
  obtain ⟨m, hm12, hcs⟩ := hcase
  have hcm := HC.out m hcs
  have hv2 := HV.out
  rw [hcm] at hv2 ⊢
  rw [← HGG.out]
  obtain ⟨V, hV⟩ : ∃ V, V = midF (genG l b0 b1 s0 s1 m g) 4 := ⟨_, rfl⟩
  rw [← hV]
  have HVV := Aside0.mk hV
  have HV2 := Aside0.mk hv2
  obtain ⟨LC, hLC⟩ : ∃ LC, LC = (if most ≤ (L.length : Int) then [] else L) := ⟨_, rfl⟩
  rw [← hLC]
  have HLC := Aside0.mk hLC
  have hwm : IntKind.i64.wrap (made + 1) = made + 1 := by rw [IntKind.wrap_i64]; omega
  clear hv2 HV HC hpos hV hcm HGG hLC hmd
  rcases hcs with ⟨rfl, rfl⟩ | ⟨rfl, rfl⟩ | ⟨hn2, rfl⟩
  · clear hx
    go_enter Tryd.func30, Tryd.ntmps30
    go_upto_region 2 with (fail)
    obtain ⟨w1, hw1⟩ : ∃ W, W = w.alloc (leafO q0 q1 q2 q3) := ⟨_, rfl⟩
    have bl := by have := blk_new w (leafO q0 q1 q2 q3); rw [← hw1] at this; exact this
    have hB1 : Below w.heap.size w w1 := by rw [hw1]; exact (by with_reducible repeat (first | apply below_alloc | apply pw_below_drewN | apply below_drew | refine bset ?_ _ _ (by omega) _ | exact Below.refl _ _))
    rw [← hw1]
    obtain ⟨gl, hgl⟩ : ∃ g, g = w.heap.size := ⟨_, rfl⟩
    rw [← hgl] at bl ⊢
    have n1 : gm < gl := by omega
    have n2 : mb < gl := by omega
    clear hw1 hgl
    have c0 := blk_cell bl 0
    have c1 := blk_cell bl 1
    have c2 := blk_cell bl 2
    have c3 := blk_cell bl 3
    simp only [List.getElem?_toArray, List.getElem?_cons_zero, List.getElem?_cons_succ] at c0 c1 c2 c3
    go_wp2_with fail
    refine (COF.out _).mono ?_
    rintro e w2 ⟨rfl, hb2⟩
    have hB2 := hB1.trans (hb2.mono hB1.size)
    have bl2 := blk_below bl hb2
    clear hb2 hB1 c0 c1 c2 c3 bl
    go_upto_region 3 with (fail)
    obtain ⟨w3, hw3⟩ : ∃ W, W = w2.alloc (blkO g 52) := ⟨_, rfl⟩
    have bx := by have := blk_new w2 (blkO g 52); rw [← hw3] at this; exact this
    have hB3 : Below w.heap.size w w3 := by rw [hw3]; exact below_alloc hB2 _
    have bl3 := by have := blk_alloc bl2 (blkO g 52); rw [← hw3] at this; exact this
    rw [← hw3]
    obtain ⟨gx, hgx⟩ : ∃ g, g = w2.heap.size := ⟨_, rfl⟩
    rw [← hgx] at bx ⊢
    have lx : w.heap.size ≤ gx := by have := hB2.size; omega
    have XO := And.intro (blk_cell bx 0) (And.intro (blk_cell bx 1) (And.intro (blk_cell bx 2) (And.intro (blk_cell bx 3) (And.intro (blk_cell bx 4) (And.intro (blk_cell bx 5) (And.intro (blk_cell bx 6) (blk_cell bx 7)))))))
    simp only [List.getElem?_toArray, List.getElem?_cons_zero, List.getElem?_cons_succ] at XO
    obtain ⟨x0, x1, x2, x3, x4, x5, x6, x7⟩ := XO
    clear hw3 hgx hB2 bl2
    go_wp2_with fail
    refine (CEMP.out _).mono ?_
    rintro e w4 ⟨rfl, hb4⟩
    have hB4 := hB3.trans (hb4.mono hB3.size)
    have bl4 := blk_below bl3 hb4
    have bx4 := blk_below bx hb4
    clear hb4 hB3 x0 x1 x2 x3 x4 x5 x6 x7 bx bl3 COF CEMP
    have c0 := blk_cell bl4 0
    have c1 := blk_cell bl4 1
    have c2 := blk_cell bl4 2
    have c3 := blk_cell bl4 3
    simp only [List.getElem?_toArray, List.getElem?_cons_zero, List.getElem?_cons_succ] at c0 c1 c2 c3
    go_upto_region 6 with (fail)
    obtain ⟨w5, hw5⟩ : ∃ W, W = w4.alloc (keyO q0 q1 q2 q3 1) := ⟨_, rfl⟩
    have by5 := by have := blk_new w4 (keyO q0 q1 q2 q3 1); rw [← hw5] at this; exact this
    have hB5 : Below w.heap.size w w5 := by rw [hw5]; exact below_alloc hB4 _
    have bx5 := by have := blk_alloc bx4 (keyO q0 q1 q2 q3 1); rw [← hw5] at this; exact this
    rw [← hw5]
    obtain ⟨gy, hgy⟩ : ∃ g, g = w4.heap.size := ⟨_, rfl⟩
    rw [← hgy] at by5 ⊢
    have nyx : gy ≠ gx := by have := blk_lt bx4; omega
    have ly : w.heap.size ≤ gy := by have := hB4.size; omega
    clear hw5 hgy hB4 c0 c1 c2 c3 bl4 bx4
    have M5 := HM.out.below hB5
    have MD := M5.below (below_drew (Below.refl w5.heap.size w5))
    obtain ⟨hlk, hno⟩ := look_K MD.map (q0, q1, q2, q3, 1) ⟨HQ.out.1, HQ.out.2.1, HQ.out.2.2.1, HQ.out.2.2.2, ⟨show (0 : Int) ≤ 1 by decide, show (1 : Int) ≤ 2 by decide⟩⟩
    have hSD : S6 gm mb gy q0 q1 q2 q3 1 w5.drew := S6.of MD.blk (blk_drew by5)
    have hnf := (hno HV2.out).1
    have m3 := blk_cell MD.blk 3
    simp only [List.getElem?_toArray, List.getElem?_cons_zero, List.getElem?_cons_succ] at m3
    have mf := blk_frozen MD.blk
    have MA := Aside0.mk MD
    have YA := Aside0.mk (blk_drew by5)
    have XA := Aside0.mk (blk_drew bx5)
    have HB := Aside0.mk (below_drew hB5)
    clear hlk hno M5 MD hB5 by5 bx5
    go_region_held3 (fun W => W.cell? ⟨gm, 2, none⟩ = some (.map (some mb)) ∧ (W.cell? ⟨gy, 0, none⟩ = some (.int .u32 q0) ∧ W.cell? ⟨gy, 1, none⟩ = some (.int .u32 q1) ∧ W.cell? ⟨gy, 2, none⟩ = some (.int .u32 q2) ∧ W.cell? ⟨gy, 3, none⟩ = some (.int .u32 q3) ∧ W.cell? ⟨gy, 4, none⟩ = some (.int .i64 1)))
      (with_reducible assumption) (fail)
    all_goals
      clear hnf hSD
      go_upto_region 10 with (fail)
      rw [show (w5.setCell ⟨gm, 3, none⟩ (.int .i64 (made + 1))).drew = w5.drew.setCell ⟨gm, 3, none⟩ (.int .i64 (made + 1)) from rfl]
      obtain ⟨w6, hw6⟩ : ∃ W, W = w5.drew.setCell ⟨gm, 3, none⟩ (.int .i64 (made + 1)) := ⟨_, rfl⟩
      have M6 := MA.out.made_put (made + 1)
      have F6 := (Fr.of_below (gm := gm) (mb := mb) HB.out).trans (Fr.cell (w := w5.drew) (gm := gm) (mb := mb) 3 (.int .i64 (made + 1)))
      have Y6 := key_far (g := gm) (j := 3) (.int .i64 (made + 1)) YA.out (by omega)
      have X6 := blk_far XA.out (p := ⟨gm, 3, none⟩) (by show ¬ gx = gm; omega) (.int .i64 (made + 1))
      rw [← hw6] at M6 F6 Y6 X6 ⊢
      have MZ := Aside0.mk M6
      have FZ := Aside0.mk F6
      have YZ := Aside0.mk Y6
      have XZ := Aside0.mk X6
      have nxm : gm < gx := by omega
      have nxb' : mb < gx := by omega
      have nxb : gx ≠ mb := by omega
      have nyb : gy ≠ mb := by omega
      clear hw6 M6 F6 Y6 X6 m3 mf MA YA XA HB
      go_wp2_with fail
      go_loopw [46] (fun iv wr => ∃ i : Nat, i ≤ 1 ∧ iv = .int .i64 i ∧ wr.heap[gx]? = some (blkO (genG l b0 b1 s0 s1 i g) 52) ∧ wr.heap[gy]? = some (keyO q0 q1 q2 q3 1) ∧ MemoAt wr gm mb gk l b0 b1 s0 s1 most (made + 1) L ∧ Fr w wr gm mb) (fun iv _ => 1 - (intOf iv).toNat)
      case atStart => exact ⟨0, by omega, rfl, XZ.out, YZ.out, MZ.out, FZ.out⟩
      case round =>
        obtain ⟨i, hi, rfl, xr, yr, mr, fr⟩ := hrel
        clear MZ FZ YZ XZ
        by_cases hlt : i < 1
        · have hdr := below_drew (Below.refl wr.heap.size wr)
          have XD := Aside0.mk (blk_drew xr)
          have YD := Aside0.mk (blk_drew yr)
          have MDD := Aside0.mk (mr.below hdr)
          have FD := Aside0.mk (fr.trans (Fr.of_below hdr))
          have KD := Aside0.mk MDD.out.kerAt
          have m0 := blk_cell MDD.out.blk 0
          simp only [List.getElem?_toArray, List.getElem?_cons_zero, List.getElem?_cons_succ] at m0
          have xd := XD.out
          have XO := And.intro (blk_cell xd 0) (And.intro (blk_cell xd 1) (And.intro (blk_cell xd 2) (And.intro (blk_cell xd 3) (And.intro (blk_cell xd 4) (And.intro (blk_cell xd 5) (And.intro (blk_cell xd 6) (blk_cell xd 7)))))))
          simp only [List.getElem?_toArray, List.getElem?_cons_zero, List.getElem?_cons_succ] at XO
          obtain ⟨x0, x1, x2, x3, x4, x5, x6, x7⟩ := XO
          have CS := Aside0.mk (CSTEP.out i gk wr.drew KD.out)
          clear hdr xr yr mr fr xd
          go_upto_region 12 with (fail)
          go_region_law (first
            | (go_simp
               go_at_call 16
               refine (CS.out).mono ?_
               rintro e w7 ⟨rfl, hb7⟩
               have X7 := blk_below XD.out hb7
               have Y7 := Aside0.mk (blk_below YD.out hb7)
               have M7 := Aside0.mk (MDD.out.below hb7)
               have F7 := Aside0.mk (FD.out.trans (Fr.of_below hb7))
               have ZO := And.intro (blk_cell X7 0) (And.intro (blk_cell X7 1) (And.intro (blk_cell X7 2) (And.intro (blk_cell X7 3) (And.intro (blk_cell X7 4) (And.intro (blk_cell X7 5) (And.intro (blk_cell X7 6) (blk_cell X7 7)))))))
               simp only [List.getElem?_toArray, List.getElem?_cons_zero, List.getElem?_cons_succ] at ZO
               obtain ⟨z0, z1, z2, z3, z4, z5, z6, z7⟩ := ZO
               have zf := blk_frozen X7
               have X8 := Aside0.mk X7
               clear X7 hb7 x0 x1 x2 x3 x4 x5 x6 x7 m0 XD YD MDD FD KD CS))
          all_goals
            clear z0 z1 z2 z3 z4 z5 z6 z7 zf
            go_wp2
            go_roundw
            case rel => exact ⟨i + 1, by omega, by go_num, set8_blk (stepG l b0 b1 s0 s1 (genG l b0 b1 s0 s1 i g)) X8.out, key_far8 _ Y7.out nyx, M7.out.set8_far nxm nxb' _, F7.out.new_set8 lx _⟩
            case measure => simp [intOf]; omega
        · obtain rfl : i = 1 := by omega
          obtain ⟨u, hu⟩ : ∃ u, u = genG l b0 b1 s0 s1 1 g := ⟨_, rfl⟩
          rw [← hu] at xr
          have cmu := CMID.out 1
          rw [← hu] at cmu
          have CMU := Aside0.mk cmu
          have HVU := Aside0.mk (show V = midF u 4 from by rw [hu]; exact HVV.out)
          clear cmu hu
          have hdr := below_drew (Below.refl wr.heap.size wr)
          have MDD := mr.below hdr
          have mm1 := blk_cell MDD.blk 1
          have mm2 := blk_cell MDD.blk 2
          simp only [List.getElem?_toArray, List.getElem?_cons_zero, List.getElem?_cons_succ] at mm1 mm2
          have hlen := MDD.map.len Tryd.underlying119 3
          rw [List.length_map] at hlen
          have MA := Aside0.mk MDD
          have XA := Aside0.mk (blk_drew xr)
          have YA := Aside0.mk (blk_drew yr)
          have FA := Aside0.mk (fr.trans (Fr.of_below hdr))
          clear hdr xr yr mr fr MDD
          go_upto_region 14 with (fail)
          clear hlt
          go_region
          all_goals
            clear hlen mm1 mm2
            by_cases hcl : most ≤ (L.length : Int)
            · go_wp2_with fail
              refine (memo_clear gm mb gk l b0 b1 s0 s1 most (made + 1) L _ MA.out).mono ?_
              rintro e wE ⟨rfl, hmE, htE⟩
              have ME := Aside0.mk hmE
              have XE := Aside0.mk ((mapTurned_heap htE nxb).trans XA.out)
              have YE := Aside0.mk ((mapTurned_heap htE nyb).trans YA.out)
              have FE := Aside0.mk (FA.out.trans (Fr.turned htE))
              have hLC0 := HLC.out
              rw [if_pos hcl] at hLC0
              subst hLC0
              have HGK := Aside0.mk (show getK ([] : Kn) (q0, q1, q2, q3, 1) = none from rfl)
              clear hmE htE MA XA YA FA
              have mm := blk_cell ME.out.blk 1
              simp only [List.getElem?_toArray, List.getElem?_cons_zero, List.getElem?_cons_succ] at mm
              by_cases hmo : 0 < most
              · go_upto_region 17 with (fail)
                have hdr := below_drew (Below.refl wE.heap.size wE)
                have MD2 := ME.out.below hdr
                have XD2 := blk_drew XE.out
                have YD2 := blk_drew YE.out
                have hSE : S14 gx gm mb gy u q0 q1 q2 q3 1 wE.drew := S14.of XD2 MD2.blk YD2
                have MA := Aside0.mk MD2
                have XA := Aside0.mk XD2
                have YA := Aside0.mk YD2
                have FA := Aside0.mk (FE.out.trans (Fr.of_below hdr))
                clear hdr MD2 XD2 YD2 XE YE ME FE mm
                go_region_held3 (fun W => (W.cell? ⟨gx, 0, none⟩ = some (.int .u16 (u 0)) ∧ W.cell? ⟨gx, 1, none⟩ = some (.int .u16 (u 1)) ∧ W.cell? ⟨gx, 2, none⟩ = some (.int .u16 (u 2)) ∧ W.cell? ⟨gx, 3, none⟩ = some (.int .u16 (u 3)) ∧ W.cell? ⟨gx, 4, none⟩ = some (.int .u16 (u 4)) ∧ W.cell? ⟨gx, 5, none⟩ = some (.int .u16 (u 5)) ∧ W.cell? ⟨gx, 6, none⟩ = some (.int .u16 (u 6)) ∧ W.cell? ⟨gx, 7, none⟩ = some (.int .u16 (u 7))) ∧ W.cell? ⟨gm, 2, none⟩ = some (.map (some mb)) ∧ (W.cell? ⟨gy, 0, none⟩ = some (.int .u32 q0) ∧ W.cell? ⟨gy, 1, none⟩ = some (.int .u32 q1) ∧ W.cell? ⟨gy, 2, none⟩ = some (.int .u32 q2) ∧ W.cell? ⟨gy, 3, none⟩ = some (.int .u32 q3) ∧ W.cell? ⟨gy, 4, none⟩ = some (.int .i64 1)))
                  (first | (with_reducible assumption) | exact hSK)
                  ((with_reducible refine (CMU.out _).mono ?_
                    rintro e w9 ⟨rfl, hb9⟩
                    rw [← HVU.out]
                    have M9 := MA.out.below hb9
                    have X9 := blk_below XA.out hb9
                    have Y9 := blk_below YA.out hb9
                    have hS9 : S14 gx gm mb gy u q0 q1 q2 q3 1 w9 := S14.of X9 M9.blk Y9
                    obtain ⟨wK, hup, hmK, htK⟩ := ((look_K M9.map (q0, q1, q2, q3, 1) ⟨HQ.out.1, HQ.out.2.1, HQ.out.2.2.1, HQ.out.2.2.2, ⟨show (0 : Int) ≤ 1 by decide, show (1 : Int) ≤ 2 by decide⟩⟩).2 HGK.out).2 V
                    have MK := Aside0.mk (M9.turned htK hmK)
                    have XK := Aside0.mk ((mapTurned_heap htK nxb).trans X9)
                    have YK := Aside0.mk ((mapTurned_heap htK nyb).trans Y9)
                    have FK := Aside0.mk ((FA.out.trans (Fr.of_below hb9)).trans (Fr.turned htK))
                    have hSK : S14 gx gm mb gy u q0 q1 q2 q3 1 wK := S14.of XK.out MK.out.blk YK.out
                    clear hb9 M9 X9 Y9 hmK htK MA XA YA FA))
                all_goals
                  have XE := XK
                  have ME := MK
                  have FE := FK
                  clear hSE hS9 hSK hup XK MK FK YK
                  have XO := And.intro (blk_cell XE.out 0) (And.intro (blk_cell XE.out 1) (And.intro (blk_cell XE.out 2) (And.intro (blk_cell XE.out 3) (And.intro (blk_cell XE.out 4) (And.intro (blk_cell XE.out 5) (And.intro (blk_cell XE.out 6) (blk_cell XE.out 7)))))))
                  simp only [List.getElem?_toArray, List.getElem?_cons_zero, List.getElem?_cons_succ] at XO
                  obtain ⟨x0, x1, x2, x3, x4, x5, x6, x7⟩ := XO
                  go_wp2_with fail
                  refine (CMU.out _).mono ?_
                  rintro e w12 ⟨rfl, hb12⟩
                  have MF := Aside0.mk (ME.out.below hb12)
                  have FF := Aside0.mk (FE.out.trans (Fr.of_below hb12))
                  clear x0 x1 x2 x3 x4 x5 x6 x7 hb12 XE ME FE
                  go_wp2
                  go_ret
                  exact ⟨by first | (rw [HVU.out]; done) | (rw [HVU.out]; rfl) | rfl, by first | exact MF.out | (rw [if_pos hmo]; exact MF.out), FF.out⟩
              · have hmo2 : decide (0 < most) = false := decide_eq_false hmo
                have XO := And.intro (blk_cell XE.out 0) (And.intro (blk_cell XE.out 1) (And.intro (blk_cell XE.out 2) (And.intro (blk_cell XE.out 3) (And.intro (blk_cell XE.out 4) (And.intro (blk_cell XE.out 5) (And.intro (blk_cell XE.out 6) (blk_cell XE.out 7)))))))
                simp only [List.getElem?_toArray, List.getElem?_cons_zero, List.getElem?_cons_succ] at XO
                obtain ⟨x0, x1, x2, x3, x4, x5, x6, x7⟩ := XO
                go_wp2_with fail
                refine (CMU.out _).mono ?_
                rintro e w12 ⟨rfl, hb12⟩
                have MF := Aside0.mk (ME.out.below hb12)
                have FF := Aside0.mk (FE.out.trans (Fr.of_below hb12))
                clear mm x0 x1 x2 x3 x4 x5 x6 x7 hb12 XE ME FE
                go_wp2
                go_ret
                exact ⟨by first | (rw [HVU.out]; done) | (rw [HVU.out]; rfl) | rfl, by first | exact MF.out | (rw [if_neg (by omega), List.append_nil]; exact MF.out), FF.out⟩
            · have hcl2 : decide (most ≤ (L.length : Int)) = false := decide_eq_false hcl
              obtain ⟨wE, hwE⟩ : ∃ W, W = wr.drew := ⟨_, rfl⟩
              have ME := Aside0.mk (hwE ▸ MA.out)
              have XE := Aside0.mk (hwE ▸ XA.out)
              have YE := Aside0.mk (hwE ▸ YA.out)
              have FE := Aside0.mk (hwE ▸ FA.out)
              rw [← hwE]
              have hLC0 := HLC.out
              rw [if_neg hcl] at hLC0
              subst hLC0
              have HGK := Aside0.mk HV2.out
              clear hwE MA XA YA FA
              have mm := blk_cell ME.out.blk 1
              simp only [List.getElem?_toArray, List.getElem?_cons_zero, List.getElem?_cons_succ] at mm
              by_cases hmo : 0 < most
              · go_upto_region 17 with (fail)
                have hdr := below_drew (Below.refl wE.heap.size wE)
                have MD2 := ME.out.below hdr
                have XD2 := blk_drew XE.out
                have YD2 := blk_drew YE.out
                have hSE : S14 gx gm mb gy u q0 q1 q2 q3 1 wE.drew := S14.of XD2 MD2.blk YD2
                have MA := Aside0.mk MD2
                have XA := Aside0.mk XD2
                have YA := Aside0.mk YD2
                have FA := Aside0.mk (FE.out.trans (Fr.of_below hdr))
                clear hdr MD2 XD2 YD2 XE YE ME FE mm
                go_region_held3 (fun W => (W.cell? ⟨gx, 0, none⟩ = some (.int .u16 (u 0)) ∧ W.cell? ⟨gx, 1, none⟩ = some (.int .u16 (u 1)) ∧ W.cell? ⟨gx, 2, none⟩ = some (.int .u16 (u 2)) ∧ W.cell? ⟨gx, 3, none⟩ = some (.int .u16 (u 3)) ∧ W.cell? ⟨gx, 4, none⟩ = some (.int .u16 (u 4)) ∧ W.cell? ⟨gx, 5, none⟩ = some (.int .u16 (u 5)) ∧ W.cell? ⟨gx, 6, none⟩ = some (.int .u16 (u 6)) ∧ W.cell? ⟨gx, 7, none⟩ = some (.int .u16 (u 7))) ∧ W.cell? ⟨gm, 2, none⟩ = some (.map (some mb)) ∧ (W.cell? ⟨gy, 0, none⟩ = some (.int .u32 q0) ∧ W.cell? ⟨gy, 1, none⟩ = some (.int .u32 q1) ∧ W.cell? ⟨gy, 2, none⟩ = some (.int .u32 q2) ∧ W.cell? ⟨gy, 3, none⟩ = some (.int .u32 q3) ∧ W.cell? ⟨gy, 4, none⟩ = some (.int .i64 1)))
                  (first | (with_reducible assumption) | exact hSK)
                  ((with_reducible refine (CMU.out _).mono ?_
                    rintro e w9 ⟨rfl, hb9⟩
                    rw [← HVU.out]
                    have M9 := MA.out.below hb9
                    have X9 := blk_below XA.out hb9
                    have Y9 := blk_below YA.out hb9
                    have hS9 : S14 gx gm mb gy u q0 q1 q2 q3 1 w9 := S14.of X9 M9.blk Y9
                    obtain ⟨wK, hup, hmK, htK⟩ := ((look_K M9.map (q0, q1, q2, q3, 1) ⟨HQ.out.1, HQ.out.2.1, HQ.out.2.2.1, HQ.out.2.2.2, ⟨show (0 : Int) ≤ 1 by decide, show (1 : Int) ≤ 2 by decide⟩⟩).2 HGK.out).2 V
                    have MK := Aside0.mk (M9.turned htK hmK)
                    have XK := Aside0.mk ((mapTurned_heap htK nxb).trans X9)
                    have YK := Aside0.mk ((mapTurned_heap htK nyb).trans Y9)
                    have FK := Aside0.mk ((FA.out.trans (Fr.of_below hb9)).trans (Fr.turned htK))
                    have hSK : S14 gx gm mb gy u q0 q1 q2 q3 1 wK := S14.of XK.out MK.out.blk YK.out
                    clear hb9 M9 X9 Y9 hmK htK MA XA YA FA))
                all_goals
                  have XE := XK
                  have ME := MK
                  have FE := FK
                  clear hSE hS9 hSK hup XK MK FK YK
                  have XO := And.intro (blk_cell XE.out 0) (And.intro (blk_cell XE.out 1) (And.intro (blk_cell XE.out 2) (And.intro (blk_cell XE.out 3) (And.intro (blk_cell XE.out 4) (And.intro (blk_cell XE.out 5) (And.intro (blk_cell XE.out 6) (blk_cell XE.out 7)))))))
                  simp only [List.getElem?_toArray, List.getElem?_cons_zero, List.getElem?_cons_succ] at XO
                  obtain ⟨x0, x1, x2, x3, x4, x5, x6, x7⟩ := XO
                  go_wp2_with fail
                  refine (CMU.out _).mono ?_
                  rintro e w12 ⟨rfl, hb12⟩
                  have MF := Aside0.mk (ME.out.below hb12)
                  have FF := Aside0.mk (FE.out.trans (Fr.of_below hb12))
                  clear x0 x1 x2 x3 x4 x5 x6 x7 hb12 XE ME FE
                  go_wp2
                  go_ret
                  exact ⟨by first | (rw [HVU.out]; done) | (rw [HVU.out]; rfl) | rfl, by first | exact MF.out | (rw [if_pos hmo]; exact MF.out), FF.out⟩
              · exfalso; omega
  · exfalso; omega
  · exfalso; omega
theorem res_newB (l b0 b1 s0 s1 q0 q1 q2 q3 n most made : Int) (L : Kn) (gm mb gk : Nat) (w : World) (hl : 1 ≤ l ∧ l ≤ 3) (h0 : 0 ≤ q0 ∧ q0 < 4294967296) (h1 : 0 ≤ q1 ∧ q1 < 4294967296) (h2 : 0 ≤ q2 ∧ q2 < 4294967296) (h3 : 0 ≤ q3 ∧ q3 < 4294967296) (hn : capN n ≠ 0) (hM : MemoAt w gm mb gk l b0 b1 s0 s1 most made L) (he : noneQ q0 q1 q2 q3 = false) (hv : getK L (q0, q1, q2, q3, (capN n : Int)) = none) (hmd : 0 ≤ made ∧ made < 1000000000000) (hLl : L.length < 1000000000) (hx : n = 2) :
    Calls Tryd.prog 30 #[.pointer (some ⟨gm, 0, none⟩), .agg #[.int .u32 q0, .int .u32 q1, .int .u32 q2, .int .u32 q3], .int .i64 n] w fun e w' => e = .returned (.int .u32 (midF (genG l b0 b1 s0 s1 (capN n) (ofG q0 q1 q2 q3)) 4)) ∧ MemoAt w' gm mb gk l b0 b1 s0 s1 most (made + 1) ((if most ≤ (L.length : Int) then [] else L) ++ (if 0 < most then [((q0, q1, q2, q3, (capN n : Int)), midF (genG l b0 b1 s0 s1 (capN n) (ofG q0 q1 q2 q3)) 4)] else [])) ∧ Fr w w' gm mb := by
  have cOf := fun W => bof_any q0 q1 q2 q3 W h0 h1 h2 h3
  have gb : ∀ k, k < 8 → 0 ≤ ofG q0 q1 q2 q3 k ∧ ofG q0 q1 q2 q3 k < 65536 := fun k _ => ofG_bd _ _ _ _ h0 h1 h2 h3 k
  obtain ⟨em, hem⟩ : ∃ em, em = noneQ q0 q1 q2 q3 := ⟨_, rfl⟩
  have cEmp := fun W => block_Block_Empty.calls (ofG q0 q1 q2 q3 0) (ofG q0 q1 q2 q3 1) (ofG q0 q1 q2 q3 2) (ofG q0 q1 q2 q3 3) (ofG q0 q1 q2 q3 4) (ofG q0 q1 q2 q3 5) (ofG q0 q1 q2 q3 6) (ofG q0 q1 q2 q3 7) em W (by rw [hem]; exact empty_of _ _ _ _ h0 h1 h2 h3)
  obtain ⟨g, hg⟩ : ∃ g, g = ofG q0 q1 q2 q3 := ⟨_, rfl⟩
  rw [← hg] at cOf cEmp gb
  have cMid := fun (j : Nat) W => bmid_any (genG l b0 b1 s0 s1 j g) W (genG_bd l b0 b1 s0 s1 g gb j)
  have cStep := fun (j : Nat) gk W h => bstep_any l b0 b1 s0 s1 (genG l b0 b1 s0 s1 j g) gk W hl (genG_bd l b0 b1 s0 s1 g gb j) h
  have COF := Aside0.mk cOf
  have CEMP := Aside0.mk cEmp
  have CMID := Aside0.mk cMid
  have CSTEP := Aside0.mk cStep
  have lm := blk_lt hM.blk
  have lb := hM.map.lt
  have HM := Aside0.mk hM
  have hpos := capN_pos hn
  have HQ := Aside0.mk (And.intro h0 (And.intro h1 (And.intro h2 h3)))
  have HGG := Aside0.mk hg
  clear cOf cMid cEmp cStep gb hM hn h0 h1 h2 h3 hl hg
  rw [he] at hem
  subst hem
  have hcap : ∀ m : Nat, ((n = 1 ∧ m = 1) ∨ (n = 2 ∧ m = 2) ∨ (2 < n ∧ m = 2)) → capN n = m := fun m h => by unfold capN; (repeat' split) <;> omega
  have HC := Aside0.mk hcap
  have HV := Aside0.mk hv
  clear hcap hv
  have hcase : ∃ m : Nat, (m = 1 ∨ m = 2) ∧ ((n = 1 ∧ m = 1) ∨ (n = 2 ∧ m = 2) ∨ (2 < n ∧ m = 2)) := by
    rcases hpos with h | h | h
    · exact ⟨1, .inl rfl, .inl ⟨h, rfl⟩⟩
    · exact ⟨2, .inr rfl, .inr (.inl ⟨h, rfl⟩)⟩
    · exact ⟨2, .inr rfl, .inr (.inr ⟨h, rfl⟩)⟩
  obtain ⟨m, hm12, hcs⟩ := hcase
  have hcm := HC.out m hcs
  have hv2 := HV.out
  rw [hcm] at hv2 ⊢
  rw [← HGG.out]
  obtain ⟨V, hV⟩ : ∃ V, V = midF (genG l b0 b1 s0 s1 m g) 4 := ⟨_, rfl⟩
  rw [← hV]
  have HVV := Aside0.mk hV
  have HV2 := Aside0.mk hv2
  obtain ⟨LC, hLC⟩ : ∃ LC, LC = (if most ≤ (L.length : Int) then [] else L) := ⟨_, rfl⟩
  rw [← hLC]
  have HLC := Aside0.mk hLC
  have hwm : IntKind.i64.wrap (made + 1) = made + 1 := by rw [IntKind.wrap_i64]; omega
  clear hv2 HV HC hpos hV hcm HGG hLC hmd
  rcases hcs with ⟨rfl, rfl⟩ | ⟨rfl, rfl⟩ | ⟨hn2, rfl⟩
  · exfalso; omega
  · clear hx
    go_enter Tryd.func30, Tryd.ntmps30
    go_upto_region 2 with (fail)
    obtain ⟨w1, hw1⟩ : ∃ W, W = w.alloc (leafO q0 q1 q2 q3) := ⟨_, rfl⟩
    have bl := by have := blk_new w (leafO q0 q1 q2 q3); rw [← hw1] at this; exact this
    have hB1 : Below w.heap.size w w1 := by rw [hw1]; exact (by with_reducible repeat (first | apply below_alloc | apply pw_below_drewN | apply below_drew | refine bset ?_ _ _ (by omega) _ | exact Below.refl _ _))
    rw [← hw1]
    obtain ⟨gl, hgl⟩ : ∃ g, g = w.heap.size := ⟨_, rfl⟩
    rw [← hgl] at bl ⊢
    have n1 : gm < gl := by omega
    have n2 : mb < gl := by omega
    clear hw1 hgl
    have c0 := blk_cell bl 0
    have c1 := blk_cell bl 1
    have c2 := blk_cell bl 2
    have c3 := blk_cell bl 3
    simp only [List.getElem?_toArray, List.getElem?_cons_zero, List.getElem?_cons_succ] at c0 c1 c2 c3
    go_wp2_with fail
    refine (COF.out _).mono ?_
    rintro e w2 ⟨rfl, hb2⟩
    have hB2 := hB1.trans (hb2.mono hB1.size)
    have bl2 := blk_below bl hb2
    clear hb2 hB1 c0 c1 c2 c3 bl
    go_upto_region 3 with (fail)
    obtain ⟨w3, hw3⟩ : ∃ W, W = w2.alloc (blkO g 52) := ⟨_, rfl⟩
    have bx := by have := blk_new w2 (blkO g 52); rw [← hw3] at this; exact this
    have hB3 : Below w.heap.size w w3 := by rw [hw3]; exact below_alloc hB2 _
    have bl3 := by have := blk_alloc bl2 (blkO g 52); rw [← hw3] at this; exact this
    rw [← hw3]
    obtain ⟨gx, hgx⟩ : ∃ g, g = w2.heap.size := ⟨_, rfl⟩
    rw [← hgx] at bx ⊢
    have lx : w.heap.size ≤ gx := by have := hB2.size; omega
    have XO := And.intro (blk_cell bx 0) (And.intro (blk_cell bx 1) (And.intro (blk_cell bx 2) (And.intro (blk_cell bx 3) (And.intro (blk_cell bx 4) (And.intro (blk_cell bx 5) (And.intro (blk_cell bx 6) (blk_cell bx 7)))))))
    simp only [List.getElem?_toArray, List.getElem?_cons_zero, List.getElem?_cons_succ] at XO
    obtain ⟨x0, x1, x2, x3, x4, x5, x6, x7⟩ := XO
    clear hw3 hgx hB2 bl2
    go_wp2_with fail
    refine (CEMP.out _).mono ?_
    rintro e w4 ⟨rfl, hb4⟩
    have hB4 := hB3.trans (hb4.mono hB3.size)
    have bl4 := blk_below bl3 hb4
    have bx4 := blk_below bx hb4
    clear hb4 hB3 x0 x1 x2 x3 x4 x5 x6 x7 bx bl3 COF CEMP
    have c0 := blk_cell bl4 0
    have c1 := blk_cell bl4 1
    have c2 := blk_cell bl4 2
    have c3 := blk_cell bl4 3
    simp only [List.getElem?_toArray, List.getElem?_cons_zero, List.getElem?_cons_succ] at c0 c1 c2 c3
    go_upto_region 6 with (fail)
    obtain ⟨w5, hw5⟩ : ∃ W, W = w4.alloc (keyO q0 q1 q2 q3 2) := ⟨_, rfl⟩
    have by5 := by have := blk_new w4 (keyO q0 q1 q2 q3 2); rw [← hw5] at this; exact this
    have hB5 : Below w.heap.size w w5 := by rw [hw5]; exact below_alloc hB4 _
    have bx5 := by have := blk_alloc bx4 (keyO q0 q1 q2 q3 2); rw [← hw5] at this; exact this
    rw [← hw5]
    obtain ⟨gy, hgy⟩ : ∃ g, g = w4.heap.size := ⟨_, rfl⟩
    rw [← hgy] at by5 ⊢
    have nyx : gy ≠ gx := by have := blk_lt bx4; omega
    have ly : w.heap.size ≤ gy := by have := hB4.size; omega
    clear hw5 hgy hB4 c0 c1 c2 c3 bl4 bx4
    have M5 := HM.out.below hB5
    have MD := M5.below (below_drew (Below.refl w5.heap.size w5))
    obtain ⟨hlk, hno⟩ := look_K MD.map (q0, q1, q2, q3, 2) ⟨HQ.out.1, HQ.out.2.1, HQ.out.2.2.1, HQ.out.2.2.2, ⟨show (0 : Int) ≤ 2 by decide, show (2 : Int) ≤ 2 by decide⟩⟩
    have hSD : S6 gm mb gy q0 q1 q2 q3 2 w5.drew := S6.of MD.blk (blk_drew by5)
    have hnf := (hno HV2.out).1
    have m3 := blk_cell MD.blk 3
    simp only [List.getElem?_toArray, List.getElem?_cons_zero, List.getElem?_cons_succ] at m3
    have mf := blk_frozen MD.blk
    have MA := Aside0.mk MD
    have YA := Aside0.mk (blk_drew by5)
    have XA := Aside0.mk (blk_drew bx5)
    have HB := Aside0.mk (below_drew hB5)
    clear hlk hno M5 MD hB5 by5 bx5
    go_region_held3 (fun W => W.cell? ⟨gm, 2, none⟩ = some (.map (some mb)) ∧ (W.cell? ⟨gy, 0, none⟩ = some (.int .u32 q0) ∧ W.cell? ⟨gy, 1, none⟩ = some (.int .u32 q1) ∧ W.cell? ⟨gy, 2, none⟩ = some (.int .u32 q2) ∧ W.cell? ⟨gy, 3, none⟩ = some (.int .u32 q3) ∧ W.cell? ⟨gy, 4, none⟩ = some (.int .i64 2)))
      (with_reducible assumption) (fail)
    all_goals
      clear hnf hSD
      go_upto_region 10 with (fail)
      rw [show (w5.setCell ⟨gm, 3, none⟩ (.int .i64 (made + 1))).drew = w5.drew.setCell ⟨gm, 3, none⟩ (.int .i64 (made + 1)) from rfl]
      obtain ⟨w6, hw6⟩ : ∃ W, W = w5.drew.setCell ⟨gm, 3, none⟩ (.int .i64 (made + 1)) := ⟨_, rfl⟩
      have M6 := MA.out.made_put (made + 1)
      have F6 := (Fr.of_below (gm := gm) (mb := mb) HB.out).trans (Fr.cell (w := w5.drew) (gm := gm) (mb := mb) 3 (.int .i64 (made + 1)))
      have Y6 := key_far (g := gm) (j := 3) (.int .i64 (made + 1)) YA.out (by omega)
      have X6 := blk_far XA.out (p := ⟨gm, 3, none⟩) (by show ¬ gx = gm; omega) (.int .i64 (made + 1))
      rw [← hw6] at M6 F6 Y6 X6 ⊢
      have MZ := Aside0.mk M6
      have FZ := Aside0.mk F6
      have YZ := Aside0.mk Y6
      have XZ := Aside0.mk X6
      have nxm : gm < gx := by omega
      have nxb' : mb < gx := by omega
      have nxb : gx ≠ mb := by omega
      have nyb : gy ≠ mb := by omega
      clear hw6 M6 F6 Y6 X6 m3 mf MA YA XA HB
      go_wp2_with fail
      go_loopw [46] (fun iv wr => ∃ i : Nat, i ≤ 2 ∧ iv = .int .i64 i ∧ wr.heap[gx]? = some (blkO (genG l b0 b1 s0 s1 i g) 52) ∧ wr.heap[gy]? = some (keyO q0 q1 q2 q3 2) ∧ MemoAt wr gm mb gk l b0 b1 s0 s1 most (made + 1) L ∧ Fr w wr gm mb) (fun iv _ => 2 - (intOf iv).toNat)
      case atStart => exact ⟨0, by omega, rfl, XZ.out, YZ.out, MZ.out, FZ.out⟩
      case round =>
        obtain ⟨i, hi, rfl, xr, yr, mr, fr⟩ := hrel
        clear MZ FZ YZ XZ
        by_cases hlt : i < 2
        · have hdr := below_drew (Below.refl wr.heap.size wr)
          have XD := Aside0.mk (blk_drew xr)
          have YD := Aside0.mk (blk_drew yr)
          have MDD := Aside0.mk (mr.below hdr)
          have FD := Aside0.mk (fr.trans (Fr.of_below hdr))
          have KD := Aside0.mk MDD.out.kerAt
          have m0 := blk_cell MDD.out.blk 0
          simp only [List.getElem?_toArray, List.getElem?_cons_zero, List.getElem?_cons_succ] at m0
          have xd := XD.out
          have XO := And.intro (blk_cell xd 0) (And.intro (blk_cell xd 1) (And.intro (blk_cell xd 2) (And.intro (blk_cell xd 3) (And.intro (blk_cell xd 4) (And.intro (blk_cell xd 5) (And.intro (blk_cell xd 6) (blk_cell xd 7)))))))
          simp only [List.getElem?_toArray, List.getElem?_cons_zero, List.getElem?_cons_succ] at XO
          obtain ⟨x0, x1, x2, x3, x4, x5, x6, x7⟩ := XO
          have CS := Aside0.mk (CSTEP.out i gk wr.drew KD.out)
          clear hdr xr yr mr fr xd
          go_upto_region 12 with (fail)
          go_region_law (first
            | (go_simp
               go_at_call 16
               refine (CS.out).mono ?_
               rintro e w7 ⟨rfl, hb7⟩
               have X7 := blk_below XD.out hb7
               have Y7 := Aside0.mk (blk_below YD.out hb7)
               have M7 := Aside0.mk (MDD.out.below hb7)
               have F7 := Aside0.mk (FD.out.trans (Fr.of_below hb7))
               have ZO := And.intro (blk_cell X7 0) (And.intro (blk_cell X7 1) (And.intro (blk_cell X7 2) (And.intro (blk_cell X7 3) (And.intro (blk_cell X7 4) (And.intro (blk_cell X7 5) (And.intro (blk_cell X7 6) (blk_cell X7 7)))))))
               simp only [List.getElem?_toArray, List.getElem?_cons_zero, List.getElem?_cons_succ] at ZO
               obtain ⟨z0, z1, z2, z3, z4, z5, z6, z7⟩ := ZO
               have zf := blk_frozen X7
               have X8 := Aside0.mk X7
               clear X7 hb7 x0 x1 x2 x3 x4 x5 x6 x7 m0 XD YD MDD FD KD CS))
          all_goals
            clear z0 z1 z2 z3 z4 z5 z6 z7 zf
            go_wp2
            go_roundw
            case rel => exact ⟨i + 1, by omega, by go_num, set8_blk (stepG l b0 b1 s0 s1 (genG l b0 b1 s0 s1 i g)) X8.out, key_far8 _ Y7.out nyx, M7.out.set8_far nxm nxb' _, F7.out.new_set8 lx _⟩
            case measure => simp [intOf]; omega
        · obtain rfl : i = 2 := by omega
          obtain ⟨u, hu⟩ : ∃ u, u = genG l b0 b1 s0 s1 2 g := ⟨_, rfl⟩
          rw [← hu] at xr
          have cmu := CMID.out 2
          rw [← hu] at cmu
          have CMU := Aside0.mk cmu
          have HVU := Aside0.mk (show V = midF u 4 from by rw [hu]; exact HVV.out)
          clear cmu hu
          have hdr := below_drew (Below.refl wr.heap.size wr)
          have MDD := mr.below hdr
          have mm1 := blk_cell MDD.blk 1
          have mm2 := blk_cell MDD.blk 2
          simp only [List.getElem?_toArray, List.getElem?_cons_zero, List.getElem?_cons_succ] at mm1 mm2
          have hlen := MDD.map.len Tryd.underlying119 3
          rw [List.length_map] at hlen
          have MA := Aside0.mk MDD
          have XA := Aside0.mk (blk_drew xr)
          have YA := Aside0.mk (blk_drew yr)
          have FA := Aside0.mk (fr.trans (Fr.of_below hdr))
          clear hdr xr yr mr fr MDD
          go_upto_region 14 with (fail)
          clear hlt
          go_region
          all_goals
            clear hlen mm1 mm2
            by_cases hcl : most ≤ (L.length : Int)
            · go_wp2_with fail
              refine (memo_clear gm mb gk l b0 b1 s0 s1 most (made + 1) L _ MA.out).mono ?_
              rintro e wE ⟨rfl, hmE, htE⟩
              have ME := Aside0.mk hmE
              have XE := Aside0.mk ((mapTurned_heap htE nxb).trans XA.out)
              have YE := Aside0.mk ((mapTurned_heap htE nyb).trans YA.out)
              have FE := Aside0.mk (FA.out.trans (Fr.turned htE))
              have hLC0 := HLC.out
              rw [if_pos hcl] at hLC0
              subst hLC0
              have HGK := Aside0.mk (show getK ([] : Kn) (q0, q1, q2, q3, 2) = none from rfl)
              clear hmE htE MA XA YA FA
              have mm := blk_cell ME.out.blk 1
              simp only [List.getElem?_toArray, List.getElem?_cons_zero, List.getElem?_cons_succ] at mm
              by_cases hmo : 0 < most
              · go_upto_region 17 with (fail)
                have hdr := below_drew (Below.refl wE.heap.size wE)
                have MD2 := ME.out.below hdr
                have XD2 := blk_drew XE.out
                have YD2 := blk_drew YE.out
                have hSE : S14 gx gm mb gy u q0 q1 q2 q3 2 wE.drew := S14.of XD2 MD2.blk YD2
                have MA := Aside0.mk MD2
                have XA := Aside0.mk XD2
                have YA := Aside0.mk YD2
                have FA := Aside0.mk (FE.out.trans (Fr.of_below hdr))
                clear hdr MD2 XD2 YD2 XE YE ME FE mm
                go_region_held3 (fun W => (W.cell? ⟨gx, 0, none⟩ = some (.int .u16 (u 0)) ∧ W.cell? ⟨gx, 1, none⟩ = some (.int .u16 (u 1)) ∧ W.cell? ⟨gx, 2, none⟩ = some (.int .u16 (u 2)) ∧ W.cell? ⟨gx, 3, none⟩ = some (.int .u16 (u 3)) ∧ W.cell? ⟨gx, 4, none⟩ = some (.int .u16 (u 4)) ∧ W.cell? ⟨gx, 5, none⟩ = some (.int .u16 (u 5)) ∧ W.cell? ⟨gx, 6, none⟩ = some (.int .u16 (u 6)) ∧ W.cell? ⟨gx, 7, none⟩ = some (.int .u16 (u 7))) ∧ W.cell? ⟨gm, 2, none⟩ = some (.map (some mb)) ∧ (W.cell? ⟨gy, 0, none⟩ = some (.int .u32 q0) ∧ W.cell? ⟨gy, 1, none⟩ = some (.int .u32 q1) ∧ W.cell? ⟨gy, 2, none⟩ = some (.int .u32 q2) ∧ W.cell? ⟨gy, 3, none⟩ = some (.int .u32 q3) ∧ W.cell? ⟨gy, 4, none⟩ = some (.int .i64 2)))
                  (first | (with_reducible assumption) | exact hSK)
                  ((with_reducible refine (CMU.out _).mono ?_
                    rintro e w9 ⟨rfl, hb9⟩
                    rw [← HVU.out]
                    have M9 := MA.out.below hb9
                    have X9 := blk_below XA.out hb9
                    have Y9 := blk_below YA.out hb9
                    have hS9 : S14 gx gm mb gy u q0 q1 q2 q3 2 w9 := S14.of X9 M9.blk Y9
                    obtain ⟨wK, hup, hmK, htK⟩ := ((look_K M9.map (q0, q1, q2, q3, 2) ⟨HQ.out.1, HQ.out.2.1, HQ.out.2.2.1, HQ.out.2.2.2, ⟨show (0 : Int) ≤ 2 by decide, show (2 : Int) ≤ 2 by decide⟩⟩).2 HGK.out).2 V
                    have MK := Aside0.mk (M9.turned htK hmK)
                    have XK := Aside0.mk ((mapTurned_heap htK nxb).trans X9)
                    have YK := Aside0.mk ((mapTurned_heap htK nyb).trans Y9)
                    have FK := Aside0.mk ((FA.out.trans (Fr.of_below hb9)).trans (Fr.turned htK))
                    have hSK : S14 gx gm mb gy u q0 q1 q2 q3 2 wK := S14.of XK.out MK.out.blk YK.out
                    clear hb9 M9 X9 Y9 hmK htK MA XA YA FA))
                all_goals
                  have XE := XK
                  have ME := MK
                  have FE := FK
                  clear hSE hS9 hSK hup XK MK FK YK
                  have XO := And.intro (blk_cell XE.out 0) (And.intro (blk_cell XE.out 1) (And.intro (blk_cell XE.out 2) (And.intro (blk_cell XE.out 3) (And.intro (blk_cell XE.out 4) (And.intro (blk_cell XE.out 5) (And.intro (blk_cell XE.out 6) (blk_cell XE.out 7)))))))
                  simp only [List.getElem?_toArray, List.getElem?_cons_zero, List.getElem?_cons_succ] at XO
                  obtain ⟨x0, x1, x2, x3, x4, x5, x6, x7⟩ := XO
                  go_wp2_with fail
                  refine (CMU.out _).mono ?_
                  rintro e w12 ⟨rfl, hb12⟩
                  have MF := Aside0.mk (ME.out.below hb12)
                  have FF := Aside0.mk (FE.out.trans (Fr.of_below hb12))
                  clear x0 x1 x2 x3 x4 x5 x6 x7 hb12 XE ME FE
                  go_wp2
                  go_ret
                  exact ⟨by first | (rw [HVU.out]; done) | (rw [HVU.out]; rfl) | rfl, by first | exact MF.out | (rw [if_pos hmo]; exact MF.out), FF.out⟩
              · have hmo2 : decide (0 < most) = false := decide_eq_false hmo
                have XO := And.intro (blk_cell XE.out 0) (And.intro (blk_cell XE.out 1) (And.intro (blk_cell XE.out 2) (And.intro (blk_cell XE.out 3) (And.intro (blk_cell XE.out 4) (And.intro (blk_cell XE.out 5) (And.intro (blk_cell XE.out 6) (blk_cell XE.out 7)))))))
                simp only [List.getElem?_toArray, List.getElem?_cons_zero, List.getElem?_cons_succ] at XO
                obtain ⟨x0, x1, x2, x3, x4, x5, x6, x7⟩ := XO
                go_wp2_with fail
                refine (CMU.out _).mono ?_
                rintro e w12 ⟨rfl, hb12⟩
                have MF := Aside0.mk (ME.out.below hb12)
                have FF := Aside0.mk (FE.out.trans (Fr.of_below hb12))
                clear mm x0 x1 x2 x3 x4 x5 x6 x7 hb12 XE ME FE
                go_wp2
                go_ret
                exact ⟨by first | (rw [HVU.out]; done) | (rw [HVU.out]; rfl) | rfl, by first | exact MF.out | (rw [if_neg (by omega), List.append_nil]; exact MF.out), FF.out⟩
            · have hcl2 : decide (most ≤ (L.length : Int)) = false := decide_eq_false hcl
              obtain ⟨wE, hwE⟩ : ∃ W, W = wr.drew := ⟨_, rfl⟩
              have ME := Aside0.mk (hwE ▸ MA.out)
              have XE := Aside0.mk (hwE ▸ XA.out)
              have YE := Aside0.mk (hwE ▸ YA.out)
              have FE := Aside0.mk (hwE ▸ FA.out)
              rw [← hwE]
              have hLC0 := HLC.out
              rw [if_neg hcl] at hLC0
              subst hLC0
              have HGK := Aside0.mk HV2.out
              clear hwE MA XA YA FA
              have mm := blk_cell ME.out.blk 1
              simp only [List.getElem?_toArray, List.getElem?_cons_zero, List.getElem?_cons_succ] at mm
              by_cases hmo : 0 < most
              · go_upto_region 17 with (fail)
                have hdr := below_drew (Below.refl wE.heap.size wE)
                have MD2 := ME.out.below hdr
                have XD2 := blk_drew XE.out
                have YD2 := blk_drew YE.out
                have hSE : S14 gx gm mb gy u q0 q1 q2 q3 2 wE.drew := S14.of XD2 MD2.blk YD2
                have MA := Aside0.mk MD2
                have XA := Aside0.mk XD2
                have YA := Aside0.mk YD2
                have FA := Aside0.mk (FE.out.trans (Fr.of_below hdr))
                clear hdr MD2 XD2 YD2 XE YE ME FE mm
                go_region_held3 (fun W => (W.cell? ⟨gx, 0, none⟩ = some (.int .u16 (u 0)) ∧ W.cell? ⟨gx, 1, none⟩ = some (.int .u16 (u 1)) ∧ W.cell? ⟨gx, 2, none⟩ = some (.int .u16 (u 2)) ∧ W.cell? ⟨gx, 3, none⟩ = some (.int .u16 (u 3)) ∧ W.cell? ⟨gx, 4, none⟩ = some (.int .u16 (u 4)) ∧ W.cell? ⟨gx, 5, none⟩ = some (.int .u16 (u 5)) ∧ W.cell? ⟨gx, 6, none⟩ = some (.int .u16 (u 6)) ∧ W.cell? ⟨gx, 7, none⟩ = some (.int .u16 (u 7))) ∧ W.cell? ⟨gm, 2, none⟩ = some (.map (some mb)) ∧ (W.cell? ⟨gy, 0, none⟩ = some (.int .u32 q0) ∧ W.cell? ⟨gy, 1, none⟩ = some (.int .u32 q1) ∧ W.cell? ⟨gy, 2, none⟩ = some (.int .u32 q2) ∧ W.cell? ⟨gy, 3, none⟩ = some (.int .u32 q3) ∧ W.cell? ⟨gy, 4, none⟩ = some (.int .i64 2)))
                  (first | (with_reducible assumption) | exact hSK)
                  ((with_reducible refine (CMU.out _).mono ?_
                    rintro e w9 ⟨rfl, hb9⟩
                    rw [← HVU.out]
                    have M9 := MA.out.below hb9
                    have X9 := blk_below XA.out hb9
                    have Y9 := blk_below YA.out hb9
                    have hS9 : S14 gx gm mb gy u q0 q1 q2 q3 2 w9 := S14.of X9 M9.blk Y9
                    obtain ⟨wK, hup, hmK, htK⟩ := ((look_K M9.map (q0, q1, q2, q3, 2) ⟨HQ.out.1, HQ.out.2.1, HQ.out.2.2.1, HQ.out.2.2.2, ⟨show (0 : Int) ≤ 2 by decide, show (2 : Int) ≤ 2 by decide⟩⟩).2 HGK.out).2 V
                    have MK := Aside0.mk (M9.turned htK hmK)
                    have XK := Aside0.mk ((mapTurned_heap htK nxb).trans X9)
                    have YK := Aside0.mk ((mapTurned_heap htK nyb).trans Y9)
                    have FK := Aside0.mk ((FA.out.trans (Fr.of_below hb9)).trans (Fr.turned htK))
                    have hSK : S14 gx gm mb gy u q0 q1 q2 q3 2 wK := S14.of XK.out MK.out.blk YK.out
                    clear hb9 M9 X9 Y9 hmK htK MA XA YA FA))
                all_goals
                  have XE := XK
                  have ME := MK
                  have FE := FK
                  clear hSE hS9 hSK hup XK MK FK YK
                  have XO := And.intro (blk_cell XE.out 0) (And.intro (blk_cell XE.out 1) (And.intro (blk_cell XE.out 2) (And.intro (blk_cell XE.out 3) (And.intro (blk_cell XE.out 4) (And.intro (blk_cell XE.out 5) (And.intro (blk_cell XE.out 6) (blk_cell XE.out 7)))))))
                  simp only [List.getElem?_toArray, List.getElem?_cons_zero, List.getElem?_cons_succ] at XO
                  obtain ⟨x0, x1, x2, x3, x4, x5, x6, x7⟩ := XO
                  go_wp2_with fail
                  refine (CMU.out _).mono ?_
                  rintro e w12 ⟨rfl, hb12⟩
                  have MF := Aside0.mk (ME.out.below hb12)
                  have FF := Aside0.mk (FE.out.trans (Fr.of_below hb12))
                  clear x0 x1 x2 x3 x4 x5 x6 x7 hb12 XE ME FE
                  go_wp2
                  go_ret
                  exact ⟨by first | (rw [HVU.out]; done) | (rw [HVU.out]; rfl) | rfl, by first | exact MF.out | (rw [if_pos hmo]; exact MF.out), FF.out⟩
              · exfalso; omega
  · exfalso; omega
theorem res_newC (l b0 b1 s0 s1 q0 q1 q2 q3 n most made : Int) (L : Kn) (gm mb gk : Nat) (w : World) (hl : 1 ≤ l ∧ l ≤ 3) (h0 : 0 ≤ q0 ∧ q0 < 4294967296) (h1 : 0 ≤ q1 ∧ q1 < 4294967296) (h2 : 0 ≤ q2 ∧ q2 < 4294967296) (h3 : 0 ≤ q3 ∧ q3 < 4294967296) (hn : capN n ≠ 0) (hM : MemoAt w gm mb gk l b0 b1 s0 s1 most made L) (he : noneQ q0 q1 q2 q3 = false) (hv : getK L (q0, q1, q2, q3, (capN n : Int)) = none) (hmd : 0 ≤ made ∧ made < 1000000000000) (hLl : L.length < 1000000000) (hx : 2 < n) :
    Calls Tryd.prog 30 #[.pointer (some ⟨gm, 0, none⟩), .agg #[.int .u32 q0, .int .u32 q1, .int .u32 q2, .int .u32 q3], .int .i64 n] w fun e w' => e = .returned (.int .u32 (midF (genG l b0 b1 s0 s1 (capN n) (ofG q0 q1 q2 q3)) 4)) ∧ MemoAt w' gm mb gk l b0 b1 s0 s1 most (made + 1) ((if most ≤ (L.length : Int) then [] else L) ++ (if 0 < most then [((q0, q1, q2, q3, (capN n : Int)), midF (genG l b0 b1 s0 s1 (capN n) (ofG q0 q1 q2 q3)) 4)] else [])) ∧ Fr w w' gm mb := by
  have cOf := fun W => bof_any q0 q1 q2 q3 W h0 h1 h2 h3
  have gb : ∀ k, k < 8 → 0 ≤ ofG q0 q1 q2 q3 k ∧ ofG q0 q1 q2 q3 k < 65536 := fun k _ => ofG_bd _ _ _ _ h0 h1 h2 h3 k
  obtain ⟨em, hem⟩ : ∃ em, em = noneQ q0 q1 q2 q3 := ⟨_, rfl⟩
  have cEmp := fun W => block_Block_Empty.calls (ofG q0 q1 q2 q3 0) (ofG q0 q1 q2 q3 1) (ofG q0 q1 q2 q3 2) (ofG q0 q1 q2 q3 3) (ofG q0 q1 q2 q3 4) (ofG q0 q1 q2 q3 5) (ofG q0 q1 q2 q3 6) (ofG q0 q1 q2 q3 7) em W (by rw [hem]; exact empty_of _ _ _ _ h0 h1 h2 h3)
  obtain ⟨g, hg⟩ : ∃ g, g = ofG q0 q1 q2 q3 := ⟨_, rfl⟩
  rw [← hg] at cOf cEmp gb
  have cMid := fun (j : Nat) W => bmid_any (genG l b0 b1 s0 s1 j g) W (genG_bd l b0 b1 s0 s1 g gb j)
  have cStep := fun (j : Nat) gk W h => bstep_any l b0 b1 s0 s1 (genG l b0 b1 s0 s1 j g) gk W hl (genG_bd l b0 b1 s0 s1 g gb j) h
  have COF := Aside0.mk cOf
  have CEMP := Aside0.mk cEmp
  have CMID := Aside0.mk cMid
  have CSTEP := Aside0.mk cStep
  have lm := blk_lt hM.blk
  have lb := hM.map.lt
  have HM := Aside0.mk hM
  have hpos := capN_pos hn
  have HQ := Aside0.mk (And.intro h0 (And.intro h1 (And.intro h2 h3)))
  have HGG := Aside0.mk hg
  clear cOf cMid cEmp cStep gb hM hn h0 h1 h2 h3 hl hg
  rw [he] at hem
  subst hem
  have hcap : ∀ m : Nat, ((n = 1 ∧ m = 1) ∨ (n = 2 ∧ m = 2) ∨ (2 < n ∧ m = 2)) → capN n = m := fun m h => by unfold capN; (repeat' split) <;> omega
  have HC := Aside0.mk hcap
  have HV := Aside0.mk hv
  clear hcap hv
  have hcase : ∃ m : Nat, (m = 1 ∨ m = 2) ∧ ((n = 1 ∧ m = 1) ∨ (n = 2 ∧ m = 2) ∨ (2 < n ∧ m = 2)) := by
    rcases hpos with h | h | h
    · exact ⟨1, .inl rfl, .inl ⟨h, rfl⟩⟩
    · exact ⟨2, .inr rfl, .inr (.inl ⟨h, rfl⟩)⟩
    · exact ⟨2, .inr rfl, .inr (.inr ⟨h, rfl⟩)⟩
  obtain ⟨m, hm12, hcs⟩ := hcase
  have hcm := HC.out m hcs
  have hv2 := HV.out
  rw [hcm] at hv2 ⊢
  rw [← HGG.out]
  obtain ⟨V, hV⟩ : ∃ V, V = midF (genG l b0 b1 s0 s1 m g) 4 := ⟨_, rfl⟩
  rw [← hV]
  have HVV := Aside0.mk hV
  have HV2 := Aside0.mk hv2
  obtain ⟨LC, hLC⟩ : ∃ LC, LC = (if most ≤ (L.length : Int) then [] else L) := ⟨_, rfl⟩
  rw [← hLC]
  have HLC := Aside0.mk hLC
  have hwm : IntKind.i64.wrap (made + 1) = made + 1 := by rw [IntKind.wrap_i64]; omega
  clear hv2 HV HC hpos hV hcm HGG hLC hmd
  rcases hcs with ⟨rfl, rfl⟩ | ⟨rfl, rfl⟩ | ⟨hn2, rfl⟩
  · exfalso; omega
  · exfalso; omega
  · clear hx
    go_enter Tryd.func30, Tryd.ntmps30
    go_upto_region 2 with (fail)
    obtain ⟨w1, hw1⟩ : ∃ W, W = w.alloc (leafO q0 q1 q2 q3) := ⟨_, rfl⟩
    have bl := by have := blk_new w (leafO q0 q1 q2 q3); rw [← hw1] at this; exact this
    have hB1 : Below w.heap.size w w1 := by rw [hw1]; exact (by with_reducible repeat (first | apply below_alloc | apply pw_below_drewN | apply below_drew | refine bset ?_ _ _ (by omega) _ | exact Below.refl _ _))
    rw [← hw1]
    obtain ⟨gl, hgl⟩ : ∃ g, g = w.heap.size := ⟨_, rfl⟩
    rw [← hgl] at bl ⊢
    have n1 : gm < gl := by omega
    have n2 : mb < gl := by omega
    clear hw1 hgl
    have c0 := blk_cell bl 0
    have c1 := blk_cell bl 1
    have c2 := blk_cell bl 2
    have c3 := blk_cell bl 3
    simp only [List.getElem?_toArray, List.getElem?_cons_zero, List.getElem?_cons_succ] at c0 c1 c2 c3
    go_wp2_with fail
    refine (COF.out _).mono ?_
    rintro e w2 ⟨rfl, hb2⟩
    have hB2 := hB1.trans (hb2.mono hB1.size)
    have bl2 := blk_below bl hb2
    clear hb2 hB1 c0 c1 c2 c3 bl
    go_upto_region 3 with (fail)
    obtain ⟨w3, hw3⟩ : ∃ W, W = w2.alloc (blkO g 52) := ⟨_, rfl⟩
    have bx := by have := blk_new w2 (blkO g 52); rw [← hw3] at this; exact this
    have hB3 : Below w.heap.size w w3 := by rw [hw3]; exact below_alloc hB2 _
    have bl3 := by have := blk_alloc bl2 (blkO g 52); rw [← hw3] at this; exact this
    rw [← hw3]
    obtain ⟨gx, hgx⟩ : ∃ g, g = w2.heap.size := ⟨_, rfl⟩
    rw [← hgx] at bx ⊢
    have lx : w.heap.size ≤ gx := by have := hB2.size; omega
    have XO := And.intro (blk_cell bx 0) (And.intro (blk_cell bx 1) (And.intro (blk_cell bx 2) (And.intro (blk_cell bx 3) (And.intro (blk_cell bx 4) (And.intro (blk_cell bx 5) (And.intro (blk_cell bx 6) (blk_cell bx 7)))))))
    simp only [List.getElem?_toArray, List.getElem?_cons_zero, List.getElem?_cons_succ] at XO
    obtain ⟨x0, x1, x2, x3, x4, x5, x6, x7⟩ := XO
    clear hw3 hgx hB2 bl2
    go_wp2_with fail
    refine (CEMP.out _).mono ?_
    rintro e w4 ⟨rfl, hb4⟩
    have hB4 := hB3.trans (hb4.mono hB3.size)
    have bl4 := blk_below bl3 hb4
    have bx4 := blk_below bx hb4
    clear hb4 hB3 x0 x1 x2 x3 x4 x5 x6 x7 bx bl3 COF CEMP
    have c0 := blk_cell bl4 0
    have c1 := blk_cell bl4 1
    have c2 := blk_cell bl4 2
    have c3 := blk_cell bl4 3
    simp only [List.getElem?_toArray, List.getElem?_cons_zero, List.getElem?_cons_succ] at c0 c1 c2 c3
    go_upto_region 6 with (fail)
    obtain ⟨w5, hw5⟩ : ∃ W, W = w4.alloc (keyO q0 q1 q2 q3 2) := ⟨_, rfl⟩
    have by5 := by have := blk_new w4 (keyO q0 q1 q2 q3 2); rw [← hw5] at this; exact this
    have hB5 : Below w.heap.size w w5 := by rw [hw5]; exact below_alloc hB4 _
    have bx5 := by have := blk_alloc bx4 (keyO q0 q1 q2 q3 2); rw [← hw5] at this; exact this
    rw [← hw5]
    obtain ⟨gy, hgy⟩ : ∃ g, g = w4.heap.size := ⟨_, rfl⟩
    rw [← hgy] at by5 ⊢
    have nyx : gy ≠ gx := by have := blk_lt bx4; omega
    have ly : w.heap.size ≤ gy := by have := hB4.size; omega
    clear hw5 hgy hB4 c0 c1 c2 c3 bl4 bx4
    have M5 := HM.out.below hB5
    have MD := M5.below (below_drew (Below.refl w5.heap.size w5))
    obtain ⟨hlk, hno⟩ := look_K MD.map (q0, q1, q2, q3, 2) ⟨HQ.out.1, HQ.out.2.1, HQ.out.2.2.1, HQ.out.2.2.2, ⟨show (0 : Int) ≤ 2 by decide, show (2 : Int) ≤ 2 by decide⟩⟩
    have hSD : S6 gm mb gy q0 q1 q2 q3 2 w5.drew := S6.of MD.blk (blk_drew by5)
    have hnf := (hno HV2.out).1
    have m3 := blk_cell MD.blk 3
    simp only [List.getElem?_toArray, List.getElem?_cons_zero, List.getElem?_cons_succ] at m3
    have mf := blk_frozen MD.blk
    have MA := Aside0.mk MD
    have YA := Aside0.mk (blk_drew by5)
    have XA := Aside0.mk (blk_drew bx5)
    have HB := Aside0.mk (below_drew hB5)
    clear hlk hno M5 MD hB5 by5 bx5
    go_region_held3 (fun W => W.cell? ⟨gm, 2, none⟩ = some (.map (some mb)) ∧ (W.cell? ⟨gy, 0, none⟩ = some (.int .u32 q0) ∧ W.cell? ⟨gy, 1, none⟩ = some (.int .u32 q1) ∧ W.cell? ⟨gy, 2, none⟩ = some (.int .u32 q2) ∧ W.cell? ⟨gy, 3, none⟩ = some (.int .u32 q3) ∧ W.cell? ⟨gy, 4, none⟩ = some (.int .i64 2)))
      (with_reducible assumption) (fail)
    all_goals
      clear hnf hSD
      go_upto_region 10 with (fail)
      rw [show (w5.setCell ⟨gm, 3, none⟩ (.int .i64 (made + 1))).drew = w5.drew.setCell ⟨gm, 3, none⟩ (.int .i64 (made + 1)) from rfl]
      obtain ⟨w6, hw6⟩ : ∃ W, W = w5.drew.setCell ⟨gm, 3, none⟩ (.int .i64 (made + 1)) := ⟨_, rfl⟩
      have M6 := MA.out.made_put (made + 1)
      have F6 := (Fr.of_below (gm := gm) (mb := mb) HB.out).trans (Fr.cell (w := w5.drew) (gm := gm) (mb := mb) 3 (.int .i64 (made + 1)))
      have Y6 := key_far (g := gm) (j := 3) (.int .i64 (made + 1)) YA.out (by omega)
      have X6 := blk_far XA.out (p := ⟨gm, 3, none⟩) (by show ¬ gx = gm; omega) (.int .i64 (made + 1))
      rw [← hw6] at M6 F6 Y6 X6 ⊢
      have MZ := Aside0.mk M6
      have FZ := Aside0.mk F6
      have YZ := Aside0.mk Y6
      have XZ := Aside0.mk X6
      have nxm : gm < gx := by omega
      have nxb' : mb < gx := by omega
      have nxb : gx ≠ mb := by omega
      have nyb : gy ≠ mb := by omega
      clear hw6 M6 F6 Y6 X6 m3 mf MA YA XA HB
      go_wp2_with fail
      go_loopw [46] (fun iv wr => ∃ i : Nat, i ≤ 2 ∧ iv = .int .i64 i ∧ wr.heap[gx]? = some (blkO (genG l b0 b1 s0 s1 i g) 52) ∧ wr.heap[gy]? = some (keyO q0 q1 q2 q3 2) ∧ MemoAt wr gm mb gk l b0 b1 s0 s1 most (made + 1) L ∧ Fr w wr gm mb) (fun iv _ => 2 - (intOf iv).toNat)
      case atStart => exact ⟨0, by omega, rfl, XZ.out, YZ.out, MZ.out, FZ.out⟩
      case round =>
        obtain ⟨i, hi, rfl, xr, yr, mr, fr⟩ := hrel
        clear MZ FZ YZ XZ
        by_cases hlt : i < 2
        · have hdr := below_drew (Below.refl wr.heap.size wr)
          have XD := Aside0.mk (blk_drew xr)
          have YD := Aside0.mk (blk_drew yr)
          have MDD := Aside0.mk (mr.below hdr)
          have FD := Aside0.mk (fr.trans (Fr.of_below hdr))
          have KD := Aside0.mk MDD.out.kerAt
          have m0 := blk_cell MDD.out.blk 0
          simp only [List.getElem?_toArray, List.getElem?_cons_zero, List.getElem?_cons_succ] at m0
          have xd := XD.out
          have XO := And.intro (blk_cell xd 0) (And.intro (blk_cell xd 1) (And.intro (blk_cell xd 2) (And.intro (blk_cell xd 3) (And.intro (blk_cell xd 4) (And.intro (blk_cell xd 5) (And.intro (blk_cell xd 6) (blk_cell xd 7)))))))
          simp only [List.getElem?_toArray, List.getElem?_cons_zero, List.getElem?_cons_succ] at XO
          obtain ⟨x0, x1, x2, x3, x4, x5, x6, x7⟩ := XO
          have CS := Aside0.mk (CSTEP.out i gk wr.drew KD.out)
          clear hdr xr yr mr fr xd
          go_upto_region 12 with (fail)
          go_region_law (first
            | (go_simp
               go_at_call 16
               refine (CS.out).mono ?_
               rintro e w7 ⟨rfl, hb7⟩
               have X7 := blk_below XD.out hb7
               have Y7 := Aside0.mk (blk_below YD.out hb7)
               have M7 := Aside0.mk (MDD.out.below hb7)
               have F7 := Aside0.mk (FD.out.trans (Fr.of_below hb7))
               have ZO := And.intro (blk_cell X7 0) (And.intro (blk_cell X7 1) (And.intro (blk_cell X7 2) (And.intro (blk_cell X7 3) (And.intro (blk_cell X7 4) (And.intro (blk_cell X7 5) (And.intro (blk_cell X7 6) (blk_cell X7 7)))))))
               simp only [List.getElem?_toArray, List.getElem?_cons_zero, List.getElem?_cons_succ] at ZO
               obtain ⟨z0, z1, z2, z3, z4, z5, z6, z7⟩ := ZO
               have zf := blk_frozen X7
               have X8 := Aside0.mk X7
               clear X7 hb7 x0 x1 x2 x3 x4 x5 x6 x7 m0 XD YD MDD FD KD CS))
          all_goals
            clear z0 z1 z2 z3 z4 z5 z6 z7 zf
            go_wp2
            go_roundw
            case rel => exact ⟨i + 1, by omega, by go_num, set8_blk (stepG l b0 b1 s0 s1 (genG l b0 b1 s0 s1 i g)) X8.out, key_far8 _ Y7.out nyx, M7.out.set8_far nxm nxb' _, F7.out.new_set8 lx _⟩
            case measure => simp [intOf]; omega
        · obtain rfl : i = 2 := by omega
          obtain ⟨u, hu⟩ : ∃ u, u = genG l b0 b1 s0 s1 2 g := ⟨_, rfl⟩
          rw [← hu] at xr
          have cmu := CMID.out 2
          rw [← hu] at cmu
          have CMU := Aside0.mk cmu
          have HVU := Aside0.mk (show V = midF u 4 from by rw [hu]; exact HVV.out)
          clear cmu hu
          have hdr := below_drew (Below.refl wr.heap.size wr)
          have MDD := mr.below hdr
          have mm1 := blk_cell MDD.blk 1
          have mm2 := blk_cell MDD.blk 2
          simp only [List.getElem?_toArray, List.getElem?_cons_zero, List.getElem?_cons_succ] at mm1 mm2
          have hlen := MDD.map.len Tryd.underlying119 3
          rw [List.length_map] at hlen
          have MA := Aside0.mk MDD
          have XA := Aside0.mk (blk_drew xr)
          have YA := Aside0.mk (blk_drew yr)
          have FA := Aside0.mk (fr.trans (Fr.of_below hdr))
          clear hdr xr yr mr fr MDD
          go_upto_region 14 with (fail)
          clear hlt
          go_region
          all_goals
            clear hlen mm1 mm2
            by_cases hcl : most ≤ (L.length : Int)
            · go_wp2_with fail
              refine (memo_clear gm mb gk l b0 b1 s0 s1 most (made + 1) L _ MA.out).mono ?_
              rintro e wE ⟨rfl, hmE, htE⟩
              have ME := Aside0.mk hmE
              have XE := Aside0.mk ((mapTurned_heap htE nxb).trans XA.out)
              have YE := Aside0.mk ((mapTurned_heap htE nyb).trans YA.out)
              have FE := Aside0.mk (FA.out.trans (Fr.turned htE))
              have hLC0 := HLC.out
              rw [if_pos hcl] at hLC0
              subst hLC0
              have HGK := Aside0.mk (show getK ([] : Kn) (q0, q1, q2, q3, 2) = none from rfl)
              clear hmE htE MA XA YA FA
              have mm := blk_cell ME.out.blk 1
              simp only [List.getElem?_toArray, List.getElem?_cons_zero, List.getElem?_cons_succ] at mm
              by_cases hmo : 0 < most
              · go_upto_region 17 with (fail)
                have hdr := below_drew (Below.refl wE.heap.size wE)
                have MD2 := ME.out.below hdr
                have XD2 := blk_drew XE.out
                have YD2 := blk_drew YE.out
                have hSE : S14 gx gm mb gy u q0 q1 q2 q3 2 wE.drew := S14.of XD2 MD2.blk YD2
                have MA := Aside0.mk MD2
                have XA := Aside0.mk XD2
                have YA := Aside0.mk YD2
                have FA := Aside0.mk (FE.out.trans (Fr.of_below hdr))
                clear hdr MD2 XD2 YD2 XE YE ME FE mm
                go_region_held3 (fun W => (W.cell? ⟨gx, 0, none⟩ = some (.int .u16 (u 0)) ∧ W.cell? ⟨gx, 1, none⟩ = some (.int .u16 (u 1)) ∧ W.cell? ⟨gx, 2, none⟩ = some (.int .u16 (u 2)) ∧ W.cell? ⟨gx, 3, none⟩ = some (.int .u16 (u 3)) ∧ W.cell? ⟨gx, 4, none⟩ = some (.int .u16 (u 4)) ∧ W.cell? ⟨gx, 5, none⟩ = some (.int .u16 (u 5)) ∧ W.cell? ⟨gx, 6, none⟩ = some (.int .u16 (u 6)) ∧ W.cell? ⟨gx, 7, none⟩ = some (.int .u16 (u 7))) ∧ W.cell? ⟨gm, 2, none⟩ = some (.map (some mb)) ∧ (W.cell? ⟨gy, 0, none⟩ = some (.int .u32 q0) ∧ W.cell? ⟨gy, 1, none⟩ = some (.int .u32 q1) ∧ W.cell? ⟨gy, 2, none⟩ = some (.int .u32 q2) ∧ W.cell? ⟨gy, 3, none⟩ = some (.int .u32 q3) ∧ W.cell? ⟨gy, 4, none⟩ = some (.int .i64 2)))
                  (first | (with_reducible assumption) | exact hSK)
                  ((with_reducible refine (CMU.out _).mono ?_
                    rintro e w9 ⟨rfl, hb9⟩
                    rw [← HVU.out]
                    have M9 := MA.out.below hb9
                    have X9 := blk_below XA.out hb9
                    have Y9 := blk_below YA.out hb9
                    have hS9 : S14 gx gm mb gy u q0 q1 q2 q3 2 w9 := S14.of X9 M9.blk Y9
                    obtain ⟨wK, hup, hmK, htK⟩ := ((look_K M9.map (q0, q1, q2, q3, 2) ⟨HQ.out.1, HQ.out.2.1, HQ.out.2.2.1, HQ.out.2.2.2, ⟨show (0 : Int) ≤ 2 by decide, show (2 : Int) ≤ 2 by decide⟩⟩).2 HGK.out).2 V
                    have MK := Aside0.mk (M9.turned htK hmK)
                    have XK := Aside0.mk ((mapTurned_heap htK nxb).trans X9)
                    have YK := Aside0.mk ((mapTurned_heap htK nyb).trans Y9)
                    have FK := Aside0.mk ((FA.out.trans (Fr.of_below hb9)).trans (Fr.turned htK))
                    have hSK : S14 gx gm mb gy u q0 q1 q2 q3 2 wK := S14.of XK.out MK.out.blk YK.out
                    clear hb9 M9 X9 Y9 hmK htK MA XA YA FA))
                all_goals
                  have XE := XK
                  have ME := MK
                  have FE := FK
                  clear hSE hS9 hSK hup XK MK FK YK
                  have XO := And.intro (blk_cell XE.out 0) (And.intro (blk_cell XE.out 1) (And.intro (blk_cell XE.out 2) (And.intro (blk_cell XE.out 3) (And.intro (blk_cell XE.out 4) (And.intro (blk_cell XE.out 5) (And.intro (blk_cell XE.out 6) (blk_cell XE.out 7)))))))
                  simp only [List.getElem?_toArray, List.getElem?_cons_zero, List.getElem?_cons_succ] at XO
                  obtain ⟨x0, x1, x2, x3, x4, x5, x6, x7⟩ := XO
                  go_wp2_with fail
                  refine (CMU.out _).mono ?_
                  rintro e w12 ⟨rfl, hb12⟩
                  have MF := Aside0.mk (ME.out.below hb12)
                  have FF := Aside0.mk (FE.out.trans (Fr.of_below hb12))
                  clear x0 x1 x2 x3 x4 x5 x6 x7 hb12 XE ME FE
                  go_wp2
                  go_ret
                  exact ⟨by first | (rw [HVU.out]; done) | (rw [HVU.out]; rfl) | rfl, by first | exact MF.out | (rw [if_pos hmo]; exact MF.out), FF.out⟩
              · have hmo2 : decide (0 < most) = false := decide_eq_false hmo
                have XO := And.intro (blk_cell XE.out 0) (And.intro (blk_cell XE.out 1) (And.intro (blk_cell XE.out 2) (And.intro (blk_cell XE.out 3) (And.intro (blk_cell XE.out 4) (And.intro (blk_cell XE.out 5) (And.intro (blk_cell XE.out 6) (blk_cell XE.out 7)))))))
                simp only [List.getElem?_toArray, List.getElem?_cons_zero, List.getElem?_cons_succ] at XO
                obtain ⟨x0, x1, x2, x3, x4, x5, x6, x7⟩ := XO
                go_wp2_with fail
                refine (CMU.out _).mono ?_
                rintro e w12 ⟨rfl, hb12⟩
                have MF := Aside0.mk (ME.out.below hb12)
                have FF := Aside0.mk (FE.out.trans (Fr.of_below hb12))
                clear mm x0 x1 x2 x3 x4 x5 x6 x7 hb12 XE ME FE
                go_wp2
                go_ret
                exact ⟨by first | (rw [HVU.out]; done) | (rw [HVU.out]; rfl) | rfl, by first | exact MF.out | (rw [if_neg (by omega), List.append_nil]; exact MF.out), FF.out⟩
            · have hcl2 : decide (most ≤ (L.length : Int)) = false := decide_eq_false hcl
              obtain ⟨wE, hwE⟩ : ∃ W, W = wr.drew := ⟨_, rfl⟩
              have ME := Aside0.mk (hwE ▸ MA.out)
              have XE := Aside0.mk (hwE ▸ XA.out)
              have YE := Aside0.mk (hwE ▸ YA.out)
              have FE := Aside0.mk (hwE ▸ FA.out)
              rw [← hwE]
              have hLC0 := HLC.out
              rw [if_neg hcl] at hLC0
              subst hLC0
              have HGK := Aside0.mk HV2.out
              clear hwE MA XA YA FA
              have mm := blk_cell ME.out.blk 1
              simp only [List.getElem?_toArray, List.getElem?_cons_zero, List.getElem?_cons_succ] at mm
              by_cases hmo : 0 < most
              · go_upto_region 17 with (fail)
                have hdr := below_drew (Below.refl wE.heap.size wE)
                have MD2 := ME.out.below hdr
                have XD2 := blk_drew XE.out
                have YD2 := blk_drew YE.out
                have hSE : S14 gx gm mb gy u q0 q1 q2 q3 2 wE.drew := S14.of XD2 MD2.blk YD2
                have MA := Aside0.mk MD2
                have XA := Aside0.mk XD2
                have YA := Aside0.mk YD2
                have FA := Aside0.mk (FE.out.trans (Fr.of_below hdr))
                clear hdr MD2 XD2 YD2 XE YE ME FE mm
                go_region_held3 (fun W => (W.cell? ⟨gx, 0, none⟩ = some (.int .u16 (u 0)) ∧ W.cell? ⟨gx, 1, none⟩ = some (.int .u16 (u 1)) ∧ W.cell? ⟨gx, 2, none⟩ = some (.int .u16 (u 2)) ∧ W.cell? ⟨gx, 3, none⟩ = some (.int .u16 (u 3)) ∧ W.cell? ⟨gx, 4, none⟩ = some (.int .u16 (u 4)) ∧ W.cell? ⟨gx, 5, none⟩ = some (.int .u16 (u 5)) ∧ W.cell? ⟨gx, 6, none⟩ = some (.int .u16 (u 6)) ∧ W.cell? ⟨gx, 7, none⟩ = some (.int .u16 (u 7))) ∧ W.cell? ⟨gm, 2, none⟩ = some (.map (some mb)) ∧ (W.cell? ⟨gy, 0, none⟩ = some (.int .u32 q0) ∧ W.cell? ⟨gy, 1, none⟩ = some (.int .u32 q1) ∧ W.cell? ⟨gy, 2, none⟩ = some (.int .u32 q2) ∧ W.cell? ⟨gy, 3, none⟩ = some (.int .u32 q3) ∧ W.cell? ⟨gy, 4, none⟩ = some (.int .i64 2)))
                  (first | (with_reducible assumption) | exact hSK)
                  ((with_reducible refine (CMU.out _).mono ?_
                    rintro e w9 ⟨rfl, hb9⟩
                    rw [← HVU.out]
                    have M9 := MA.out.below hb9
                    have X9 := blk_below XA.out hb9
                    have Y9 := blk_below YA.out hb9
                    have hS9 : S14 gx gm mb gy u q0 q1 q2 q3 2 w9 := S14.of X9 M9.blk Y9
                    obtain ⟨wK, hup, hmK, htK⟩ := ((look_K M9.map (q0, q1, q2, q3, 2) ⟨HQ.out.1, HQ.out.2.1, HQ.out.2.2.1, HQ.out.2.2.2, ⟨show (0 : Int) ≤ 2 by decide, show (2 : Int) ≤ 2 by decide⟩⟩).2 HGK.out).2 V
                    have MK := Aside0.mk (M9.turned htK hmK)
                    have XK := Aside0.mk ((mapTurned_heap htK nxb).trans X9)
                    have YK := Aside0.mk ((mapTurned_heap htK nyb).trans Y9)
                    have FK := Aside0.mk ((FA.out.trans (Fr.of_below hb9)).trans (Fr.turned htK))
                    have hSK : S14 gx gm mb gy u q0 q1 q2 q3 2 wK := S14.of XK.out MK.out.blk YK.out
                    clear hb9 M9 X9 Y9 hmK htK MA XA YA FA))
                all_goals
                  have XE := XK
                  have ME := MK
                  have FE := FK
                  clear hSE hS9 hSK hup XK MK FK YK
                  have XO := And.intro (blk_cell XE.out 0) (And.intro (blk_cell XE.out 1) (And.intro (blk_cell XE.out 2) (And.intro (blk_cell XE.out 3) (And.intro (blk_cell XE.out 4) (And.intro (blk_cell XE.out 5) (And.intro (blk_cell XE.out 6) (blk_cell XE.out 7)))))))
                  simp only [List.getElem?_toArray, List.getElem?_cons_zero, List.getElem?_cons_succ] at XO
                  obtain ⟨x0, x1, x2, x3, x4, x5, x6, x7⟩ := XO
                  go_wp2_with fail
                  refine (CMU.out _).mono ?_
                  rintro e w12 ⟨rfl, hb12⟩
                  have MF := Aside0.mk (ME.out.below hb12)
                  have FF := Aside0.mk (FE.out.trans (Fr.of_below hb12))
                  clear x0 x1 x2 x3 x4 x5 x6 x7 hb12 XE ME FE
                  go_wp2
                  go_ret
                  exact ⟨by first | (rw [HVU.out]; done) | (rw [HVU.out]; rfl) | rfl, by first | exact MF.out | (rw [if_pos hmo]; exact MF.out), FF.out⟩
              · exfalso; omega
theorem res_new (l b0 b1 s0 s1 q0 q1 q2 q3 n most made : Int) (L : Kn) (gm mb gk : Nat) (w : World) (hl : 1 ≤ l ∧ l ≤ 3) (h0 : 0 ≤ q0 ∧ q0 < 4294967296) (h1 : 0 ≤ q1 ∧ q1 < 4294967296) (h2 : 0 ≤ q2 ∧ q2 < 4294967296) (h3 : 0 ≤ q3 ∧ q3 < 4294967296) (hn : capN n ≠ 0) (hM : MemoAt w gm mb gk l b0 b1 s0 s1 most made L) (he : noneQ q0 q1 q2 q3 = false) (hv : getK L (q0, q1, q2, q3, (capN n : Int)) = none) (hmd : 0 ≤ made ∧ made < 1000000000000) (hLl : L.length < 1000000000) :
    Calls Tryd.prog 30 #[.pointer (some ⟨gm, 0, none⟩), .agg #[.int .u32 q0, .int .u32 q1, .int .u32 q2, .int .u32 q3], .int .i64 n] w fun e w' => e = .returned (.int .u32 (midF (genG l b0 b1 s0 s1 (capN n) (ofG q0 q1 q2 q3)) 4)) ∧ MemoAt w' gm mb gk l b0 b1 s0 s1 most (made + 1) ((if most ≤ (L.length : Int) then [] else L) ++ (if 0 < most then [((q0, q1, q2, q3, (capN n : Int)), midF (genG l b0 b1 s0 s1 (capN n) (ofG q0 q1 q2 q3)) 4)] else [])) ∧ Fr w w' gm mb := by
  rcases capN_pos hn with hx | hx | hx
  · exact res_newA l b0 b1 s0 s1 q0 q1 q2 q3 n most made L gm mb gk w hl h0 h1 h2 h3 hn hM he hv hmd hLl hx
  · exact res_newB l b0 b1 s0 s1 q0 q1 q2 q3 n most made L gm mb gk w hl h0 h1 h2 h3 hn hM he hv hmd hLl hx
  · exact res_newC l b0 b1 s0 s1 q0 q1 q2 q3 n most made L gm mb gk w hl h0 h1 h2 h3 hn hM he hv hmd hLl hx
end
open Go.RowKit Go.Proofs.YtieekbdododkkaaDoorW.PrintWords Go.Proofs.YtieekbdododkkaaDoorW.PrintLast Go.Proofs.YtieekbdododkkaaDoorW.PrintMore
open H
open Go.ChangeMaps Go.MapKept Go.WideShapes
theorem res_any (l b0 b1 s0 s1 q0 q1 q2 q3 n most made : Int) (L : Kn) (gm mb gk : Nat) (w : World) (hl : 1 ≤ l ∧ l ≤ 3) (h0 : 0 ≤ q0 ∧ q0 < 4294967296) (h1 : 0 ≤ q1 ∧ q1 < 4294967296) (h2 : 0 ≤ q2 ∧ q2 < 4294967296) (h3 : 0 ≤ q3 ∧ q3 < 4294967296) (hM : MemoAt w gm mb gk l b0 b1 s0 s1 most made L) (hmd : 0 ≤ made ∧ made < 1000000000000) (hLl : L.length < 1000000000) :
    Calls Tryd.prog 30 #[.pointer (some ⟨gm, 0, none⟩), .agg #[.int .u32 q0, .int .u32 q1, .int .u32 q2, .int .u32 q3], .int .i64 n] w fun e w' => e = .returned (.int .u32 (askK l b0 b1 s0 s1 most L q0 q1 q2 q3 n).1) ∧ MemoAt w' gm mb gk l b0 b1 s0 s1 most (made + (askK l b0 b1 s0 s1 most L q0 q1 q2 q3 n).2.2) (askK l b0 b1 s0 s1 most L q0 q1 q2 q3 n).2.1 ∧ Fr w w' gm mb := by
  by_cases hn : capN n = 0
  · have e : askK l b0 b1 s0 s1 most L q0 q1 q2 q3 n = (midF (ofG q0 q1 q2 q3) 4, L, 0) := by unfold askK; rw [if_pos (.inl hn)]
    rw [e]
    refine (res_none l b0 b1 s0 s1 q0 q1 q2 q3 n most made L gm mb gk w h0 h1 h2 h3 hn).mono ?_
    rintro x w' ⟨hx, hb⟩
    exact ⟨hx, by simpa using hM.below hb, Fr.of_below hb⟩
  · cases he : noneQ q0 q1 q2 q3 with
    | true =>
      have e : askK l b0 b1 s0 s1 most L q0 q1 q2 q3 n = (midF (ofG q0 q1 q2 q3) 4, L, 0) := by unfold askK; rw [if_pos (.inr he)]
      rw [e]
      refine (res_empty l b0 b1 s0 s1 q0 q1 q2 q3 n most made L gm mb gk w hl h0 h1 h2 h3 hn hM he).mono ?_
      rintro x w' ⟨hx, hb⟩
      exact ⟨hx, by simpa using hM.below hb, Fr.of_below hb⟩
    | false =>
      have hno : ¬ (capN n = 0 ∨ noneQ q0 q1 q2 q3 = true) := by rw [he]; simpa using hn
      cases hg : getK L (q0, q1, q2, q3, (capN n : Int)) with
      | some v =>
        have e : askK l b0 b1 s0 s1 most L q0 q1 q2 q3 n = (v, L, 0) := by unfold askK; rw [if_neg hno, hg]
        rw [e]
        refine (res_known l b0 b1 s0 s1 q0 q1 q2 q3 n most made L gm mb gk w hl h0 h1 h2 h3 hn hM he v hg).mono ?_
        rintro x w' ⟨hx, hb⟩
        exact ⟨hx, by simpa using hM.below hb, Fr.of_below hb⟩
      | none =>
        have e : askK l b0 b1 s0 s1 most L q0 q1 q2 q3 n = (midF (genG l b0 b1 s0 s1 (capN n) (ofG q0 q1 q2 q3)) 4, (if most ≤ (L.length : Int) then [] else L) ++ (if 0 < most then [((q0, q1, q2, q3, (capN n : Int)), midF (genG l b0 b1 s0 s1 (capN n) (ofG q0 q1 q2 q3)) 4)] else []), 1) := by unfold askK; rw [if_neg hno, hg]
        rw [e]
        exact res_new l b0 b1 s0 s1 q0 q1 q2 q3 n most made L gm mb gk w hl h0 h1 h2 h3 hn hM he hg hmd hLl
theorem ask_a0 : askK 1 0 0 0 0 4 [] 4294967295 4294967295 4294967295 4294967295 0 = (4294967295, [], 0) := by kernel_rfl
theorem ask_a1 : askK 1 0 0 0 0 4 [] 4294967295 4294967295 4294967295 4294967295 1 = (0, [((4294967295, 4294967295, 4294967295, 4294967295, 1), 0)], 1) := by kernel_rfl
theorem awk11_any (w : World) (hG : Six w) :
    Calls Tryd.prog 27 #[] w fun e w' => e = .returned (.bool true) ∧ Below w.heap.size w w' := by
  have cNew := fun W (hW : Six W) => bnew_hex 0 0 0 0 W (by decide +kernel) hW
  have cMem := fun gk W (h : KerAt W gk 1 0 0 0 0) => memo_new gk 1 0 0 0 0 4 W h (by omega)
  have cR0 := fun gm mb gk W (h : MemoAt W gm mb gk 1 0 0 0 0 4 0 []) => res_any 1 0 0 0 0 4294967295 4294967295 4294967295 4294967295 0 4 0 [] gm mb gk W (by omega) (by omega) (by omega) (by omega) (by omega) h (by omega) (by decide)
  have cR1 := fun gm mb gk W (h : MemoAt W gm mb gk 1 0 0 0 0 4 0 []) => res_any 1 0 0 0 0 4294967295 4294967295 4294967295 4294967295 1 4 0 [] gm mb gk W (by omega) (by omega) (by omega) (by omega) (by omega) h (by omega) (by decide)
  simp only [ask_a0] at cR0
  simp only [ask_a1] at cR1
  have CNEW := Aside0.mk cNew
  have CMEM := Aside0.mk cMem
  have CR0 := Aside0.mk cR0
  have CR1 := Aside0.mk cR1
  clear cNew cMem cR0 cR1
  go_enter Tryd.func27, Tryd.ntmps27
  go_wp2_with fail
  refine (CNEW.out _ hG).mono ?_
  rintro e w2 ⟨gk, rfl, hk, hgk, hb2⟩
  go_wp2_with fail
  refine (CMEM.out _ _ hk).mono ?_
  rintro e w3 ⟨gm, mb, rfl, hm, lgm, lmb, hb3⟩
  have hz2 := hb2.size
  have HB3 := Aside0.mk (hb2.trans (hb3.mono hz2))
  have M3 := Aside0.mk hm
  have l1 : w.heap.size ≤ gm := by omega
  have l2 : w.heap.size ≤ mb := by omega
  clear hk hb2 hb3 hm lgm lmb hgk hz2
  go_wp2_with fail
  refine (CR0.out _ _ _ _ M3.out).mono ?_
  rintro e w4 ⟨rfl, hm4, hf4⟩
  have M4 := Aside0.mk hm4
  have HB4 := Aside0.mk (HB3.out.trans (hf4.low _ l1 l2 HB3.out.size))
  clear hm4 hf4 M3 HB3 CR0
  go_wp2_with fail
  refine (memo_made _ _ _ _ _ _ _ _ _ _ _ _ M4.out).mono ?_
  rintro e w5 ⟨rfl, rfl⟩
  go_wp2_with fail
  refine (CR1.out _ _ _ _ (by simpa using M4.out)).mono ?_
  rintro e w6 ⟨rfl, hm6, hf6⟩
  have M6 := Aside0.mk hm6
  have HB6 := Aside0.mk (HB4.out.trans (hf6.low _ l1 l2 HB4.out.size))
  clear hm6 hf6 M4 HB4 CR1
  go_wp2_with fail
  refine (memo_made _ _ _ _ _ _ _ _ _ _ _ _ M6.out).mono ?_
  rintro e w7 ⟨rfl, rfl⟩
  go_wp2_with fail
  refine (memo_kept _ _ _ _ _ _ _ _ _ _ _ _ M6.out).mono ?_
  rintro e w8 ⟨rfl, rfl⟩
  go_wp2
  go_ret
  exact ⟨rfl, HB6.out⟩
abbrev q4O (q0 q1 q2 q3 : Int) : Obj := .cells #[.int .u32 q0, .int .u32 q1, .int .u32 q2, .int .u32 q3] 27 (0, 0)
/-- a leaf without the bits of Half 1 -/
def tdQ (lat q : Int) : Int := if lat = 1 then Go.bits .and .u32 q 1431655765 else q
def upT (j i : Nat) (q : Int) : Int := if i < j then Go.bits .and .u32 q 1431655765 else q
theorem tdQ_bd (lat q : Int) (h : 0 ≤ q ∧ q < 4294967296) : 0 ≤ tdQ lat q ∧ tdQ lat q < 4294967296 := by
  unfold tdQ
  split
  · rw [Go.u32_and q 1431655765 h.1 h.2 (by omega) (by omega)]
    have := Nat.and_le_left (n := q.toNat) (m := (1431655765 : Int).toNat)
    omega
  · exact h
theorem told11_any (lat b0 b1 s0 s1 q0 q1 q2 q3 : Int) (w : World) :
    Calls Tryd.prog 29 #[.agg #[.int .i64 lat, .int .u64 b0, .int .u64 b1, .int .u64 s0, .int .u64 s1], .agg #[.int .u32 q0, .int .u32 q1, .int .u32 q2, .int .u32 q3]] w fun e w' => e = .returned (.agg #[.int .u32 (tdQ lat q0), .int .u32 (tdQ lat q1), .int .u32 (tdQ lat q2), .int .u32 (tdQ lat q3)]) ∧ Below w.heap.size w w' := by
  go_enter Tryd.func29, Tryd.ntmps29
  go_upto_region 1 with (fail)
  obtain ⟨w3, hw3⟩ : ∃ W, W = ((w.alloc (.cells #[.int .i64 lat, .int .u64 b0, .int .u64 b1, .int .u64 s0, .int .u64 s1] 32 (0, 0))).alloc (q4O q0 q1 q2 q3)).alloc (q4O 0 0 0 0) := ⟨_, rfl⟩
  have bt : w3.heap[w.heap.size]? = some (.cells #[.int .i64 lat, .int .u64 b0, .int .u64 b1, .int .u64 s0, .int .u64 s1] 32 (0, 0)) := by rw [hw3]; exact blk_alloc (blk_alloc (blk_new _ _) _) _
  have bq : w3.heap[w.heap.size + 1]? = some (q4O q0 q1 q2 q3) := by
    have := blk_new (w.alloc (.cells #[.int .i64 lat, .int .u64 b0, .int .u64 b1, .int .u64 s0, .int .u64 s1] 32 (0, 0))) (q4O q0 q1 q2 q3)
    rw [World.size_alloc] at this
    rw [hw3]
    exact blk_alloc this _
  have bo : w3.heap[w.heap.size + 1 + 1]? = some (q4O 0 0 0 0) := by
    have := blk_new ((w.alloc (.cells #[.int .i64 lat, .int .u64 b0, .int .u64 b1, .int .u64 s0, .int .u64 s1] 32 (0, 0))).alloc (q4O q0 q1 q2 q3)) (q4O 0 0 0 0)
    rw [World.size_alloc, World.size_alloc] at this
    rw [hw3]
    exact this
  have hB : Below w.heap.size w w3 := by rw [hw3]; exact (by with_reducible repeat (first | apply below_alloc | apply pw_below_drewN | apply below_drew | refine bset ?_ _ _ (by omega) _ | exact Below.refl _ _))
  rw [← hw3]
  obtain ⟨g1, hg1⟩ : ∃ g, g = w.heap.size := ⟨_, rfl⟩
  obtain ⟨g2, hg2⟩ : ∃ g, g = w.heap.size + 1 := ⟨_, rfl⟩
  obtain ⟨g3, hg3⟩ : ∃ g, g = w.heap.size + 1 + 1 := ⟨_, rfl⟩
  rw [← hg1] at bt
  rw [← hg3] at bo ⊢
  rw [← hg2] at bq ⊢
  rw [← hg1]
  have n12 : g1 ≠ g2 := by omega
  have n32 : g3 ≠ g2 := by omega
  have l2 : w.heap.size ≤ g2 := by omega
  have l3 : w.heap.size ≤ g3 := by omega
  clear hw3 hg1 hg2 hg3
  go_wp2_with fail
  by_cases hl : lat = 1
  · subst hl
    go_loopw [6] (fun iv wr => ∃ j : Nat, j ≤ 4 ∧ iv = .int .i64 j ∧ wr.heap[g1]? = some (.cells #[.int .i64 1, .int .u64 b0, .int .u64 b1, .int .u64 s0, .int .u64 s1] 32 (0, 0)) ∧ wr.heap[g2]? = some (q4O (upT j 0 q0) (upT j 1 q1) (upT j 2 q2) (upT j 3 q3)) ∧ wr.heap[g3]? = some (q4O 0 0 0 0) ∧ Below w.heap.size w wr) (fun iv _ => 4 - (intOf iv).toNat)
    case atStart => exact ⟨0, by omega, rfl, bt, bq, bo, hB⟩
    case round =>
      obtain ⟨j, hj, rfl, rt, rq, ro, hB⟩ := hrel
      have RT := Aside0.mk rt
      have RQ := Aside0.mk rq
      have RO := Aside0.mk ro
      have HB := Aside0.mk hB
      have t0 := blk_cell rt 0
      simp only [List.getElem?_toArray, List.getElem?_cons_zero, List.getElem?_cons_succ] at t0
      clear bt bq bo rt rq ro hB
      by_cases hlt : j < 4
      · have hjj : j = 0 ∨ j = 1 ∨ j = 2 ∨ j = 3 := by omega
        rcases hjj with rfl | rfl | rfl | rfl
        · have xj := blk_cell RQ.out 0
          simp only [List.getElem?_toArray, List.getElem?_cons_zero, List.getElem?_cons_succ] at xj
          have xf := blk_frozen RQ.out
          go_wp2
          go_roundw
          case rel => exact ⟨1, by omega, by go_num, blk_far RT.out (p := ⟨g2, 0, none⟩) n12 _, blk_put RQ.out 0 _ rfl, blk_far RO.out (p := ⟨g2, 0, none⟩) n32 _, Below.setCell (p := ⟨g2, 0, none⟩) HB.out l2 _⟩
          case measure => simp [intOf]
        · have xj := blk_cell RQ.out 1
          simp only [List.getElem?_toArray, List.getElem?_cons_zero, List.getElem?_cons_succ] at xj
          have xf := blk_frozen RQ.out
          go_wp2
          go_roundw
          case rel => exact ⟨2, by omega, by go_num, blk_far RT.out (p := ⟨g2, 1, none⟩) n12 _, blk_put RQ.out 1 _ rfl, blk_far RO.out (p := ⟨g2, 1, none⟩) n32 _, Below.setCell (p := ⟨g2, 1, none⟩) HB.out l2 _⟩
          case measure => simp [intOf]
        · have xj := blk_cell RQ.out 2
          simp only [List.getElem?_toArray, List.getElem?_cons_zero, List.getElem?_cons_succ] at xj
          have xf := blk_frozen RQ.out
          go_wp2
          go_roundw
          case rel => exact ⟨3, by omega, by go_num, blk_far RT.out (p := ⟨g2, 2, none⟩) n12 _, blk_put RQ.out 2 _ rfl, blk_far RO.out (p := ⟨g2, 2, none⟩) n32 _, Below.setCell (p := ⟨g2, 2, none⟩) HB.out l2 _⟩
          case measure => simp [intOf]
        · have xj := blk_cell RQ.out 3
          simp only [List.getElem?_toArray, List.getElem?_cons_zero, List.getElem?_cons_succ] at xj
          have xf := blk_frozen RQ.out
          go_wp2
          go_roundw
          case rel => exact ⟨4, by omega, by go_num, blk_far RT.out (p := ⟨g2, 3, none⟩) n12 _, blk_put RQ.out 3 _ rfl, blk_far RO.out (p := ⟨g2, 3, none⟩) n32 _, Below.setCell (p := ⟨g2, 3, none⟩) HB.out l2 _⟩
          case measure => simp [intOf]
      · obtain rfl : j = 4 := by omega
        clear t0
        have XO := And.intro (blk_cell RQ.out 0) (And.intro (blk_cell RQ.out 1) (And.intro (blk_cell RQ.out 2) (blk_cell RQ.out 3)))
        have YO := And.intro (blk_cell RO.out 0) (And.intro (blk_cell RO.out 1) (And.intro (blk_cell RO.out 2) (blk_cell RO.out 3)))
        have yf := blk_frozen RO.out
        simp only [List.getElem?_toArray, List.getElem?_cons_zero, List.getElem?_cons_succ] at XO YO
        obtain ⟨x0, x1, x2, x3⟩ := XO
        obtain ⟨y0, y1, y2, y3⟩ := YO
        go_wp2
        have r0 := blk_put RO.out 0 (.int .u32 (upT 4 0 q0)) (show _ = #[.int .u32 (upT 4 0 q0), .int .u32 0, .int .u32 0, .int .u32 0] from rfl)
        have r1 := blk_put r0 1 (.int .u32 (upT 4 1 q1)) (show _ = #[.int .u32 (upT 4 0 q0), .int .u32 (upT 4 1 q1), .int .u32 0, .int .u32 0] from rfl)
        have r2 := blk_put r1 2 (.int .u32 (upT 4 2 q2)) (show _ = #[.int .u32 (upT 4 0 q0), .int .u32 (upT 4 1 q1), .int .u32 (upT 4 2 q2), .int .u32 0] from rfl)
        have r3 := blk_put r2 3 (.int .u32 (upT 4 3 q3)) (show _ = #[.int .u32 (upT 4 0 q0), .int .u32 (upT 4 1 q1), .int .u32 (upT 4 2 q2), .int .u32 (upT 4 3 q3)] from rfl)
        exact bodyPost_ret (results_cell_row rfl _ _ g3 27 _ (0, 0) _ rfl r3 Tryd.underlying27 rfl (by kernel_rfl)) rfl ⟨rfl, Below.setCell (p := ⟨g3, 3, none⟩) (Below.setCell (p := ⟨g3, 2, none⟩) (Below.setCell (p := ⟨g3, 1, none⟩) (Below.setCell (p := ⟨g3, 0, none⟩) HB.out l3 _) l3 _) l3 _) l3 _⟩
  · have hne : (lat == 1) = false := by simpa using hl
    go_loopw [6] (fun iv wr => ∃ j : Nat, j ≤ 4 ∧ iv = .int .i64 j ∧ wr.heap[g1]? = some (.cells #[.int .i64 lat, .int .u64 b0, .int .u64 b1, .int .u64 s0, .int .u64 s1] 32 (0, 0)) ∧ wr.heap[g2]? = some (q4O q0 q1 q2 q3) ∧ wr.heap[g3]? = some (q4O 0 0 0 0) ∧ Below w.heap.size w wr) (fun iv _ => 4 - (intOf iv).toNat)
    case atStart => exact ⟨0, by omega, rfl, bt, bq, bo, hB⟩
    case round =>
      obtain ⟨j, hj, rfl, rt, rq, ro, hB⟩ := hrel
      have RT := Aside0.mk rt
      have RQ := Aside0.mk rq
      have RO := Aside0.mk ro
      have HB := Aside0.mk hB
      have t0 := blk_cell rt 0
      simp only [List.getElem?_toArray, List.getElem?_cons_zero, List.getElem?_cons_succ] at t0
      clear bt bq bo rt rq ro hB
      by_cases hlt : j < 4
      · go_wp2
        go_roundw
        case rel => exact ⟨j + 1, by omega, by go_num, RT.out, RQ.out, RO.out, HB.out⟩
        case measure => simp [intOf]; omega
      · obtain rfl : j = 4 := by omega
        clear t0
        have XO := And.intro (blk_cell RQ.out 0) (And.intro (blk_cell RQ.out 1) (And.intro (blk_cell RQ.out 2) (blk_cell RQ.out 3)))
        have YO := And.intro (blk_cell RO.out 0) (And.intro (blk_cell RO.out 1) (And.intro (blk_cell RO.out 2) (blk_cell RO.out 3)))
        have yf := blk_frozen RO.out
        simp only [List.getElem?_toArray, List.getElem?_cons_zero, List.getElem?_cons_succ] at XO YO
        obtain ⟨x0, x1, x2, x3⟩ := XO
        obtain ⟨y0, y1, y2, y3⟩ := YO
        go_wp2
        have r0 := blk_put RO.out 0 (.int .u32 (q0)) (show _ = #[.int .u32 (q0), .int .u32 0, .int .u32 0, .int .u32 0] from rfl)
        have r1 := blk_put r0 1 (.int .u32 (q1)) (show _ = #[.int .u32 (q0), .int .u32 (q1), .int .u32 0, .int .u32 0] from rfl)
        have r2 := blk_put r1 2 (.int .u32 (q2)) (show _ = #[.int .u32 (q0), .int .u32 (q1), .int .u32 (q2), .int .u32 0] from rfl)
        have r3 := blk_put r2 3 (.int .u32 (q3)) (show _ = #[.int .u32 (q0), .int .u32 (q1), .int .u32 (q2), .int .u32 (q3)] from rfl)
        exact bodyPost_ret (results_cell_row rfl _ _ g3 27 _ (0, 0) _ rfl r3 Tryd.underlying27 rfl (by kernel_rfl)) rfl ⟨by unfold tdQ; rw [if_neg hl, if_neg hl, if_neg hl, if_neg hl], Below.setCell (p := ⟨g3, 3, none⟩) (Below.setCell (p := ⟨g3, 2, none⟩) (Below.setCell (p := ⟨g3, 1, none⟩) (Below.setCell (p := ⟨g3, 0, none⟩) HB.out l3 _) l3 _) l3 _) l3 _⟩
def updV (V : Nat → Value) (j : Nat) (v : Value) (i : Nat) : Value := if i = j then v else V i
theorem kerO_get (l b0 b1 s0 s1 : Int) (V : Nat → Value) (j : Nat) (hj : j < 2) : (#[.int .i64 l, .int .u64 b0, .int .u64 b1, .int .u64 s0, .int .u64 s1, V 0, V 1] : Array Value)[5 + j]? = some (V j) := by
  have : j = 0 ∨ j = 1 := by omega
  rcases this with rfl | rfl <;> rfl
theorem kerO_set (l b0 b1 s0 s1 : Int) (V : Nat → Value) (j : Nat) (hj : j < 2) (x v : Value) : (#[.int .i64 l, .int .u64 b0, .int .u64 b1, .int .u64 s0, .int .u64 s1, updV V j x 0, updV V j x 1] : Array Value).setIfInBounds (5 + j) v = #[.int .i64 l, .int .u64 b0, .int .u64 b1, .int .u64 s0, .int .u64 s1, updV V j v 0, updV V j v 1] := by
  have : j = 0 ∨ j = 1 := by omega
  rcases this with rfl | rfl <;> rfl
theorem updV_same (V : Nat → Value) (j : Nat) (v : Value) (h : V j = v) : updV V j v = V := by
  funext i
  unfold updV
  split
  · next e => rw [e, h]
  · rfl
theorem bnew_tri (l b0 b1 s0 s1 : Int) (w : World) (h : checkT l b0 b1 s0 s1 = none) (hl : l = 2 ∨ l = 3) (hG : Six w) :
    Calls Tryd.prog 11 #[.agg #[.int .i64 l, .int .u64 b0, .int .u64 b1, .int .u64 s0, .int .u64 s1]] w fun e w' => ∃ gk : Nat, e = .returned (.tuple #[.pointer (some ⟨gk, 0, none⟩), .nilIface]) ∧ KerAt w' gk l b0 b1 s0 s1 ∧ w.heap.size ≤ gk ∧ Below w.heap.size w w' := by
  have hc := fun W => XTCheck.calls l b0 b1 s0 s1 none W (by unfold XTCheck.f; rw [h])
  simp only [errW_none] at hc
  have HC := Aside0.mk hc
  have HG := Aside0.mk hG
  clear hc h hG
  have hbj := fun (j : Int) (hj : j = 0 ∨ j = 1) W hW => XBeside.calls l 0 0 j ((offs l j).map (sh 0 0)) none W hW (besid l j hl hj)
  simp only [errW_none] at hbj
  have CBJ := Aside0.mk hbj
  have hne1 : (l == 1) = false := by simp; omega
  clear hbj
  go_enter Tryd.func11, Tryd.ntmps11
  go_wp2_with fail
  obtain ⟨w1, hw1⟩ : ∃ W, W = w.alloc (.cells #[.int .i64 l, .int .u64 b0, .int .u64 b1, .int .u64 s0, .int .u64 s1] 32 (0, 0)) := ⟨_, rfl⟩
  have bt : w1.heap[w.heap.size]? = some (.cells #[.int .i64 l, .int .u64 b0, .int .u64 b1, .int .u64 s0, .int .u64 s1] 32 (0, 0)) := by rw [hw1]; exact blk_new _ _
  have hB : Below w.heap.size w w1 := by rw [hw1]; exact (by with_reducible repeat (first | apply below_alloc | apply pw_below_drewN | apply below_drew | refine bset ?_ _ _ (by omega) _ | exact Below.refl _ _))
  rw [← hw1]
  obtain ⟨g1, hg1⟩ : ∃ g, g = w.heap.size := ⟨_, rfl⟩
  rw [← hg1] at bt ⊢
  have l1 : w.heap.size ≤ g1 := by omega
  clear hw1 hg1
  refine (HC.out _).mono ?_
  rintro e w2 ⟨rfl, hb⟩
  have bt2 := blk_below bt hb
  have hB2 := hB.trans (hb.mono hB.size)
  clear bt hB hb
  have t0 := blk_cell bt2 0
  have t1 := blk_cell bt2 1
  have t2 := blk_cell bt2 2
  have t3 := blk_cell bt2 3
  have t4 := blk_cell bt2 4
  simp only [List.getElem?_toArray, List.getElem?_cons_zero, List.getElem?_cons_succ] at t0 t1 t2 t3 t4
  go_upto_region 5 with (fail)
  obtain ⟨w3, hw3⟩ : ∃ W, W = w2.alloc (kerO l b0 b1 s0 s1 (.slice none 0 0) (.slice none 0 0)) := ⟨_, rfl⟩
  have bk3 : w3.heap[w2.heap.size]? = some (kerO l b0 b1 s0 s1 (.slice none 0 0) (.slice none 0 0)) := by rw [hw3]; exact blk_new _ _
  have bt3 : w3.heap[g1]? = some (.cells #[.int .i64 l, .int .u64 b0, .int .u64 b1, .int .u64 s0, .int .u64 s1] 32 (0, 0)) := by rw [hw3]; exact blk_alloc bt2 _
  have hB3 : Below w.heap.size w w3 := by rw [hw3]; exact below_alloc hB2 _
  have hz3 : w2.heap.size < w3.heap.size := by rw [hw3, World.size_alloc]; omega
  rw [← hw3]
  obtain ⟨g5, hg5⟩ : ∃ g, g = w2.heap.size := ⟨_, rfl⟩
  have l5 : w.heap.size ≤ g5 := by have := hB2.size; omega
  have n15 : g1 ≠ g5 := by have := blk_lt bt2; omega
  rw [← hg5] at bk3 hz3 ⊢
  clear t0 t1 t2 t3 t4 hw3 hg5 bt2 hB2
  have t0 := blk_cell bt3 0
  simp only [List.getElem?_toArray, List.getElem?_cons_zero, List.getElem?_cons_succ] at t0
  go_wp2_with fail
  go_loopw [49] (fun jv wr => ∃ (j : Nat) (V : Nat → Value), j ≤ 2 ∧ jv = .int .i64 j ∧ wr.heap[g1]? = some (.cells #[.int .i64 l, .int .u64 b0, .int .u64 b1, .int .u64 s0, .int .u64 s1] 32 (0, 0)) ∧ wr.heap[g5]? = some (kerO l b0 b1 s0 s1 (V 0) (V 1)) ∧ (∀ i, j ≤ i → V i = .slice none 0 0) ∧ (∀ i, i < 2 → Kd.R k99 99 wr w.heap.size (fun k => k ≠ g5) (V i) (if i < j then nearK l i else [])) ∧ Below w.heap.size w wr) (fun jv _ => 2 - (intOf jv).toNat)
  case atStart => exact ⟨0, fun _ => .slice none 0 0, by omega, rfl, bt3, bk3, fun _ _ => rfl, fun _ _ => by rw [if_neg (Nat.not_lt_zero _)]; exact Kd.R_nil _ _ _ _ _, hB3⟩
  case round =>
    obtain ⟨j, V, hj, rfl, bt, bk, hV, hRs, hB⟩ := hrel
    clear t0 bt3 bk3 hB3 hz3
    by_cases hj2 : j < 2
    · have hVj := hV j (Nat.le_refl j)
      have t0 := blk_cell bt 0
      simp only [List.getElem?_toArray, List.getElem?_cons_zero, List.getElem?_cons_succ] at t0
      have hkl := blk_lt bk
      have htl := blk_lt bt
      have hBz := hB.size
      have BT := Aside0.mk bt
      have BK := Aside0.mk bk
      have HB := Aside0.mk hB
      have RS := Aside0.mk hRs
      have HV := Aside0.mk hV
      have HVJ := Aside0.mk hVj
      clear bt bk hB hRs hV hVj
      go_wp2_with fail
      refine (CBJ.out j (by omega) _ (HG.out.below HB.out)).mono ?_
      rintro e w6 ⟨vb, rfl, hRb, hb6⟩
      obtain ⟨A, cA, rfl, hlA, _⟩ := Kd.R_reads hRb
      obtain ⟨n6, hn6⟩ : ∃ n, n = w6.heap.size := ⟨_, rfl⟩
      have hz6 := hb6.size
      have RL := Aside0.mk (Kd.R_mono (ok' := fun k => k < n6 ∧ k ≠ g5) (Kd.R_bound hRb) (fun k hk => ⟨by have := hk.2.2.1; omega, by have := hk.2.1; omega⟩))
      have RS6 := Aside0.mk (show ∀ i, i < 2 → Kd.R k99 99 w6 w.heap.size (fun k => k < n6 ∧ k ≠ g5) (V i) (if i < j then nearK l i else []) from fun i hi => Kd.R_mono (ok' := fun k => k < n6 ∧ k ≠ g5) (Kd.R_bound (Kd.R_below (RS.out i hi) hb6)) (fun k hk => ⟨by have := hk.2.2.1; omega, hk.1⟩))
      have BT6 := Aside0.mk (blk_below BT.out hb6)
      have BK6 := Aside0.mk (blk_below BK.out hb6)
      have HB6 := Aside0.mk (HB.out.trans (hb6.mono hBz))
      have hwz : w.heap.size ≤ n6 := by omega
      have hg16 : g1 < n6 := by omega
      have hg56 : g5 < n6 := by omega
      have hn6' : n6 ≤ w6.heap.size := by omega
      obtain ⟨nb, hnb⟩ : ∃ n, n = wr.heap.size := ⟨_, rfl⟩
      rw [← hnb] at RL
      clear t0 hRb hb6 BT BK HB RS hn6 hkl htl hBz hz6 hnb
      obtain ⟨LL, hLL⟩ : ∃ LL, LL = (offs l j).map (sh 0 0) := ⟨_, rfl⟩
      have hnear : ∀ k, (hk : k < LL.length) → (nearK l j).take (k + 1) = (nearK l j).take k ++ [⟨(LL[k]).f0.f0, (LL[k]).f0.f1, (LL[k]).f1, 1⟩] := by
        intro k hk
        have hk' : k < (offs l j).length := by rw [hLL, List.length_map] at hk; exact hk
        have e : LL[k] = (offs l j)[k] := by
          simp only [hLL, List.getElem_map]
          exact sh_00 _
        rw [e]
        unfold nearK
        rw [if_neg (by omega)]
        exact take_map_snoc _ _ k hk'
      have hnl : (nearK l j).length = LL.length := by
        unfold nearK
        rw [if_neg (by omega), hLL, List.length_map, List.length_map]
      have hLn : LL.length ≤ 12 := by rw [← hnl]; exact (nearK_ok l j (by omega) (by omega)).1
      have HNEAR := Aside0.mk hnear
      have HNL := Aside0.mk hnl
      rw [← hLL] at RL ⊢
      clear hLL hnear hnl
      obtain ⟨NK, hNK⟩ : ∃ NK, NK = nearK l j := ⟨_, rfl⟩
      rw [← hNK] at HNEAR HNL
      have HNK := Aside0.mk hNK
      clear hNK
      go_wp2_with fail
      go_loopw [62] (fun kv ws => ∃ (k : Nat) (v : Value), k ≤ LL.length ∧ kv = .int .i64 k ∧ ws.heap[g1]? = some (.cells #[.int .i64 l, .int .u64 b0, .int .u64 b1, .int .u64 s0, .int .u64 s1] 32 (0, 0)) ∧ ws.heap[g5]? = some (kerO l b0 b1 s0 s1 (updV V j v 0) (updV V j v 1)) ∧ Kd.R k99 99 ws n6 (fun k => k ≠ g5) v (NK.take k) ∧ (∀ i, i < 2 → Kd.R k99 99 ws w.heap.size (fun k => k < n6 ∧ k ≠ g5) (V i) (if i < j then nearK l i else [])) ∧ Kd.R k47 47 ws nb (fun k => k < n6 ∧ k ≠ g5) (.slice A LL.length cA) LL ∧ Below w.heap.size w ws ∧ n6 ≤ ws.heap.size) (fun kv _ => LL.length - (intOf kv).toNat)
      case atStart => exact ⟨0, .slice none 0 0, by omega, rfl, BT6.out, by rw [updV_same V j _ HVJ.out]; exact BK6.out, Kd.R_nil _ _ _ _ _, RS6.out, RL.out, HB6.out, hn6'⟩
      case round =>
        obtain ⟨k, v, hk, rfl, bt, bk, hR, hRo, hRl, hB, hz⟩ := hrel
        have BT := Aside0.mk bt
        have BK := Aside0.mk bk
        have RR := Aside0.mk hR
        have RO := Aside0.mk hRo
        have RLL := Aside0.mk hRl
        have HB := Aside0.mk hB
        have hBz := hB.size
        clear BT6 BK6 RS6 RL HB6 bt bk hR hRo hRl hB hn6'
        by_cases hk6 : k < LL.length
        · obtain ⟨_, _, hC⟩ := Kd.R_reads' RLL.out
          obtain ⟨ad, hAd, a0, a1, a2⟩ := at_T47 hC k (by omega) (by omega)
          rw [Int.toNat_natCast] at a0 a1 a2
          have hx : rd_T47 LL k = LL[k] := by simp [rd_T47, hk6]
          have hnx := HNEAR.out k hk6
          rw [hx] at a0 a1 a2
          obtain ⟨p, hp⟩ : ∃ p, p = LL[k] := ⟨_, rfl⟩
          rw [← hp] at a0 a1 a2 hnx
          have HNX := Aside0.mk hnx
          have hlen : (NK.take k).length ≤ 12 := by rw [List.length_take]; omega
          clear hC hx hp hnx
          rw [hAd] at RLL
          subst hAd
          go_upto_region 19 with (fail)
          obtain ⟨w7, hw7⟩ : ∃ W, W = wr.alloc (.cells #[.int .i64 p.f0.f0, .int .i64 p.f0.f1, .int .i64 p.f1] 47 (0, 0)) := ⟨_, rfl⟩
          have bp7 : w7.heap[wr.heap.size]? = some (.cells #[.int .i64 p.f0.f0, .int .i64 p.f0.f1, .int .i64 p.f1] 47 (0, 0)) := by rw [hw7]; exact blk_new _ _
          have hb7 : Below wr.heap.size wr w7 := by rw [hw7]; exact below_alloc (Below.refl _ _) _
          rw [← hw7]
          obtain ⟨g12, hg12⟩ : ∃ g, g = wr.heap.size := ⟨_, rfl⟩
          rw [← hg12] at bp7 ⊢
          have BT7 := Aside0.mk (blk_below BT.out hb7)
          have BK7 := Aside0.mk (blk_below BK.out hb7)
          have RR7 := Aside0.mk (Kd.R_below RR.out hb7)
          have RO7 := Aside0.mk (show ∀ i, i < 2 → _ from fun i hi => Kd.R_below (RO.out i hi) hb7)
          have RL7 := Aside0.mk (Kd.R_below RLL.out hb7)
          have HB7 := Aside0.mk (HB.out.trans (hb7.mono hBz))
          have hz7 : n6 ≤ w7.drew.heap.size := by have := hb7.size; show n6 ≤ w7.heap.size; omega
          have e5 := kerO_get l b0 b1 s0 s1 (updV V j v) j hj2
          have hvj : updV V j v j = v := by unfold updV; rw [if_pos rfl]
          rw [hvj] at e5
          have n5 := (blk_cell (blk_drew BK7.out) (5 + j)).trans e5
          have n5' := (blk_cell BK7.out (5 + j)).trans e5
          have n5'' := (blk_cell (blk_alloc BK7.out (.cells #[.int .i64 p.f0.f0, .int .i64 p.f0.f1, .int .i64 p.f1, .int .i64 1] 99 (0, 0))) (5 + j)).trans e5
          have p0 := blk_cell (blk_drew bp7) 0
          have p1 := blk_cell (blk_drew bp7) 1
          have p2 := blk_cell (blk_drew bp7) 2
          have p0' := blk_cell bp7 0
          have p1' := blk_cell bp7 1
          have p2' := blk_cell bp7 2
          simp only [List.getElem?_toArray, List.getElem?_cons_zero, List.getElem?_cons_succ] at p0 p1 p2 p0' p1' p2'
          have E5 := Aside0.mk e5
          clear hw7 hg12 hb7 BT BK RR RO RLL HB bp7 a0 a1 a2 e5 hvj
          go_region_law (first
            | (refine Kd.R_append_step k99 (w0 := w7.drew) (W := w7.drew) n6 rfl (.tmp 73) (.tmp 83) 92 99 (.agg #[.int .i64 0, .int .i64 0, .int .i64 0, .int .i64 0]) 32 rfl Tryd.underlying92 info99 rfl (by decide) (by decide) v (NK.take k) ⟨p.f0.f0, p.f0.f1, p.f1, 1⟩ [.int .i64 p.f0.f0, .int .i64 p.f0.f1, .int .i64 p.f1, .int .i64 1] (fun k => k ≠ g5) (fun _ => False) rfl rfl (k99_mkM _ _ _ _) (fun _ h => h.elim) (fun j hj => by have := hz7; omega) (Kd.R_drew RR7.out) (Below.refl _ _) hz7 (by omega) ?_
               intro v8 w8 hr8 hb8 hg8 hat8
               obtain ⟨A8, c8, e8, hl8, _⟩ := Kd.R_reads hr8
               generalize List.length _ = n8 at e8
               subst e8
               have bk8 := (hb8.block g5 hg56).trans (blk_drew BK7.out)
               have BT8 := Aside0.mk ((hb8.block g1 hg16).trans (blk_drew BT7.out))
               have RO8 := Aside0.mk (show ∀ i, i < 2 → _ from fun i hi => Kd.R_step (Kd.R_drew (RO7.out i hi)) (fun k hk _ => hb8.block k hk.1))
               have RL8 := Aside0.mk (Kd.R_step (Kd.R_drew RL7.out) (fun k hk _ => hb8.block k hk.1))
               have HB8 := Aside0.mk ((below_drew HB7.out).trans (hb8.mono hwz))
               have hz8 : n6 ≤ w8.heap.size := Nat.le_trans hz7 hb8.size
               have m5 := (blk_cell bk8 (5 + j)).trans E5.out
               have mf := blk_frozen bk8
               have BK8 := Aside0.mk bk8
               have RR8 := Aside0.mk hr8
               clear bk8 hr8 hb8 hg8 hat8 n5 n5' n5'' p0 p1 p2 p0' p1' p2'))
          all_goals
            clear m5 mf
            go_wp2
            go_roundw
            case rel => exact ⟨k + 1, _, by omega, by go_num, blk_far BT8.out (p := ⟨g5, 5 + j, none⟩) n15 _, blk_put BK8.out (5 + j) _ (kerO_set l b0 b1 s0 s1 V j hj2 v _), by rw [HNX.out]; exact Kd.R_far RR8.out (p := ⟨g5, 5 + j, none⟩) (fun _ h => h) _, fun i hi => Kd.R_far (RO8.out i hi) (p := ⟨g5, 5 + j, none⟩) (fun _ h => h.2) _, Kd.R_far RL8.out (p := ⟨g5, 5 + j, none⟩) (fun _ h => h.2) _, Below.setCell (p := ⟨g5, 5 + j, none⟩) HB8.out l5 _, Nat.le_trans hz8 (Below.setCell (p := ⟨g5, 5 + j, none⟩) (Below.refl g5 w8) (Nat.le_refl _) _).size⟩
            case measure => simp [intOf]; omega
        · obtain rfl : k = LL.length := by omega
          have RR2 := RR.out
          rw [← HNL.out, List.take_length] at RR2
          have RN := Aside0.mk (show ∀ i, i < 2 → Kd.R k99 99 wr w.heap.size (fun k => k ≠ g5) (updV V j v i) (if i < j + 1 then nearK l i else []) from fun i hi => by
            by_cases e : i = j
            · subst e
              unfold updV
              rw [if_pos rfl, if_pos (by omega), ← HNK.out]
              exact Kd.R_lower RR2 hwz
            · have h := Kd.R_mono (ok' := fun k => k ≠ g5) (RO.out i hi) (fun _ h => h.2)
              unfold updV
              rw [if_neg e]
              by_cases e2 : i < j
              · rw [if_pos e2] at h
                rw [if_pos (by omega)]
                exact h
              · rw [if_neg e2] at h
                rw [if_neg (by omega)]
                exact h)
          have VN := Aside0.mk (show ∀ i, j + 1 ≤ i → updV V j v i = .slice none 0 0 from fun i hi => by
            unfold updV
            rw [if_neg (by omega)]
            exact HV.out i (by omega))
          clear RR2 RR RO RLL
          go_wp2
          go_roundw
          case rel => exact ⟨j + 1, updV V j v, by omega, by go_num, BT.out, BK.out, VN.out, RN.out, HB.out⟩
          case measure => simp [intOf]; omega
    · obtain rfl : j = 2 := by omega
      have BK := Aside0.mk bk
      have HB := Aside0.mk hB
      have R0 := Aside0.mk (hRs 0 (by omega))
      have R1 := Aside0.mk (hRs 1 (by omega))
      clear bt bk hV hRs hB
      go_wp2
      go_ret2
      have r0 := R0.out
      have r1 := R1.out
      rw [if_pos (by omega)] at r0 r1
      obtain ⟨A0, c0, e0, _, hC0⟩ := Kd.R_reads r0
      obtain ⟨A1, c1, e1, _, hC1⟩ := Kd.R_reads r1
      have bk := BK.out
      rw [e0, e1] at bk
      exact ⟨g5, rfl, ⟨A0, c0, A1, c1, bk, hC0, hC1⟩, l5, HB.out⟩
theorem bnew_any (l b0 b1 s0 s1 : Int) (w : World) (h : checkT l b0 b1 s0 s1 = none) (hl : 1 ≤ l ∧ l ≤ 3) (hG : Six w) :
    Calls Tryd.prog 11 #[.agg #[.int .i64 l, .int .u64 b0, .int .u64 b1, .int .u64 s0, .int .u64 s1]] w fun e w' => ∃ gk : Nat, e = .returned (.tuple #[.pointer (some ⟨gk, 0, none⟩), .nilIface]) ∧ KerAt w' gk l b0 b1 s0 s1 ∧ w.heap.size ≤ gk ∧ Below w.heap.size w w' := by
  by_cases h1 : l = 1
  · subst h1
    exact bnew_hex b0 b1 s0 s1 w h hG
  · exact bnew_tri l b0 b1 s0 s1 w h (by omega) hG
end Go.Proofs.YtieekbdododkkaaDoor
