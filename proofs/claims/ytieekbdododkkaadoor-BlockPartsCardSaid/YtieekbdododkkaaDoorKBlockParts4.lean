/- BlockParts is true for every input, with what its row says of the package variables that it reads. -/
import Derived.Test.YtieekbdododkkaaDoorKBlockParts3
import Derived.Test.YtieekbdododkkaaDoorKBlockParts0
import Derived.Test.YtieekbdododkkaaDoorCards
namespace Go.Proofs.YtieekbdododkkaaDoor
set_option linter.unusedSimpArgs false
set_option linter.unusedVariables false
set_option maxRecDepth 100000
set_option maxHeartbeats 16000000
open Go.RowKit Go.Proofs.YtieekbdododkkaaDoorW.PrintWords Go.Proofs.YtieekbdododkkaaDoorW.PrintLast Go.Proofs.YtieekbdododkkaaDoorW.PrintMore
open H
theorem C_four {w : World} {g t : Nat} {a b c d : Int} (hb : w.heap[g]? = some (.cells #[.int .u32 a, .int .u32 b, .int .u32 c, .int .u32 d] t (0, 0))) : Kd.C (Kd.int .u32) w (some ⟨g, 0, none⟩) [a, b, c, d].length [a, b, c, d] := by
  have e0 : w.cell? ⟨g, 0, none⟩ = some (.int .u32 a) := blk_cell hb 0
  have e1 : w.cell? ⟨g, 1, none⟩ = some (.int .u32 b) := blk_cell hb 1
  have e2 : w.cell? ⟨g, 2, none⟩ = some (.int .u32 c) := blk_cell hb 2
  have e3 : w.cell? ⟨g, 3, none⟩ = some (.int .u32 d) := blk_cell hb 3
  refine ⟨rfl, by simp, fun _ => ⟨_, rfl, fun j p hp => ?_⟩⟩
  have hj : j = 0 ∨ j = 1 ∨ j = 2 ∨ j = 3 := by
    have := (List.getElem?_eq_some_iff.1 hp).1
    simp at this
    omega
  rcases hj with rfl | rfl | rfl | rfl
  · obtain rfl : a = p := by simpa using hp
    refine ⟨[.int .u32 a], rfl, rfl, fun u v huv => ?_⟩
    have : u = 0 := by have := (List.getElem?_eq_some_iff.1 huv).1; simp at this; omega
    subst this
    obtain rfl : Value.int .u32 a = v := by simpa using huv
    exact e0
  · obtain rfl : b = p := by simpa using hp
    refine ⟨[.int .u32 b], rfl, rfl, fun u v huv => ?_⟩
    have : u = 0 := by have := (List.getElem?_eq_some_iff.1 huv).1; simp at this; omega
    subst this
    obtain rfl : Value.int .u32 b = v := by simpa using huv
    exact e1
  · obtain rfl : c = p := by simpa using hp
    refine ⟨[.int .u32 c], rfl, rfl, fun u v huv => ?_⟩
    have : u = 0 := by have := (List.getElem?_eq_some_iff.1 huv).1; simp at this; omega
    subst this
    obtain rfl : Value.int .u32 c = v := by simpa using huv
    exact e2
  · obtain rfl : d = p := by simpa using hp
    refine ⟨[.int .u32 d], rfl, rfl, fun u v huv => ?_⟩
    have : u = 0 := by have := (List.getElem?_eq_some_iff.1 huv).1; simp at this; omega
    subst this
    obtain rfl : Value.int .u32 d = v := by simpa using huv
    exact e3
abbrev S12 (gx gl : Nat) (g : Nat → Int) (l0 l1 l2 l3 : Int) (W : World) : Prop := (W.cell? ⟨gx, 0, none⟩ = some (.int .u16 (g 0)) ∧ W.cell? ⟨gx, 1, none⟩ = some (.int .u16 (g 1)) ∧ W.cell? ⟨gx, 2, none⟩ = some (.int .u16 (g 2)) ∧ W.cell? ⟨gx, 3, none⟩ = some (.int .u16 (g 3)) ∧ W.cell? ⟨gx, 4, none⟩ = some (.int .u16 (g 4)) ∧ W.cell? ⟨gx, 5, none⟩ = some (.int .u16 (g 5)) ∧ W.cell? ⟨gx, 6, none⟩ = some (.int .u16 (g 6)) ∧ W.cell? ⟨gx, 7, none⟩ = some (.int .u16 (g 7))) ∧ (W.cell? ⟨gl, 0, none⟩ = some (.int .u32 l0) ∧ W.cell? ⟨gl, 1, none⟩ = some (.int .u32 l1) ∧ W.cell? ⟨gl, 2, none⟩ = some (.int .u32 l2) ∧ W.cell? ⟨gl, 3, none⟩ = some (.int .u32 l3))
abbrev lvO (l0 l1 l2 l3 : Int) : Obj := .cells #[.int .u32 l0, .int .u32 l1, .int .u32 l2, .int .u32 l3] 27 (0, 0)
theorem S12.of {W : World} {gx gl : Nat} {g : Nat → Int} {l0 l1 l2 l3 : Int} (h1 : W.heap[gx]? = some (blkO g 52)) (h2 : W.heap[gl]? = some (lvO l0 l1 l2 l3)) : S12 gx gl g l0 l1 l2 l3 W :=
  ⟨⟨blk_cell h1 0, blk_cell h1 1, blk_cell h1 2, blk_cell h1 3, blk_cell h1 4, blk_cell h1 5, blk_cell h1 6, blk_cell h1 7⟩, blk_cell h2 0, blk_cell h2 1, blk_cell h2 2, blk_cell h2 3⟩
theorem q4_eq (a b c d : Int) : ∀ w, (binOp .eql 56 (.agg #[.int .u32 a, .int .u32 b, .int .u32 c, .int .u32 d]) (.agg #[.int .u32 a, .int .u32 b, .int .u32 c, .int .u32 d])).run Tryd.prog w = .ok (.bool true) w := fun w => by
  simp only [binOp]
  have h : (Op.equalIn 10000 56 (.agg #[.int .u32 a, .int .u32 b, .int .u32 c, .int .u32 d]) (.agg #[.int .u32 a, .int .u32 b, .int .u32 c, .int .u32 d])).run Tryd.prog w = .ok (a == a && (b == b && (c == c && (d == d)))) w := by
    refine eqR_of (c := 1) Tryd.underlying56 Tryd.underlying55 (by kernel_rfl) (by rfl) ?_
    refine eqi_cons (by go_simp; rfl) (by go_simp; rfl) (by go_simp) ?_
    refine eqi_cons (by go_simp; rfl) (by go_simp; rfl) (by go_simp) ?_
    refine eqi_cons (by go_simp; rfl) (by go_simp; rfl) (by go_simp) ?_
    exact eqi_last (by go_simp; rfl) (by go_simp; rfl) (by go_simp)
  simp [Op.equal, Op.maxDepth, h]
theorem blockParts_walk (l0 l1 l2 l3 a b : Int) (w : World) (hG : Six w) (h0 : 0 ≤ l0) (h0' : l0 < 4294967296) (h1 : 0 ≤ l1) (h1' : l1 < 4294967296) (h2 : 0 ≤ l2) (h2' : l2 < 4294967296) (h3 : 0 ≤ l3) (h3' : l3 < 4294967296) :
    Calls Tryd.prog 5 #[.agg #[.int .u32 l0, .int .u32 l1, .int .u32 l2, .int .u32 l3], .int .i64 a, .int .i64 b] w fun e w' => e = .returned (.bool true) ∧ Below w.heap.size w w' := by
  obtain ⟨g, hg⟩ : ∃ g, g = ofG l0 l1 l2 l3 := ⟨_, rfl⟩
  have gb : ∀ k, k < 8 → 0 ≤ g k ∧ g k < 65536 := fun k _ => by rw [hg]; exact ofG_bd _ _ _ _ ⟨h0, h0'⟩ ⟨h1, h1'⟩ ⟨h2, h2'⟩ ⟨h3, h3'⟩ k
  have cOf := fun W => bof_any l0 l1 l2 l3 W ⟨h0, h0'⟩ ⟨h1, h1'⟩ ⟨h2, h2'⟩ ⟨h3, h3'⟩
  have cQua := fun W => bqua_any g W gb
  have cMid := fun W => bmid_any g W gb
  have cSt := fun W => bst_any g a b W gb
  obtain ⟨em, hem⟩ : ∃ em, em = noneQ l0 l1 l2 l3 := ⟨_, rfl⟩
  have cEmp := fun W => block_Block_Empty.calls (g 0) (g 1) (g 2) (g 3) (g 4) (g 5) (g 6) (g 7) em W (by rw [hg, hem]; exact empty_of _ _ _ _ ⟨h0, h0'⟩ ⟨h1, h1'⟩ ⟨h2, h2'⟩ ⟨h3, h3'⟩)
  have hnone := none_or l0 l1 l2 l3 ⟨h0, h0'⟩ ⟨h1, h1'⟩ ⟨h2, h2'⟩ ⟨h3, h3'⟩
  rw [← hem] at hnone
  have hqua : quaC g 8 = #[.int .u32 l0, .int .u32 l1, .int .u32 l2, .int .u32 l3] := by rw [hg]; exact qua_of _ _ _ _ ⟨h0, h0'⟩ ⟨h1, h1'⟩ ⟨h2, h2'⟩ ⟨h3, h3'⟩
  rw [hqua] at cQua
  clear hqua
  rw [← hg] at cOf
  have cOwn := fun W => honeycomblaw10_Own.calls l0 l1 l2 l3 l0 l1 l2 l3 W rfl
  have hlf : ∀ m, 0 ≤ leafAt l0 l1 l2 l3 m ∧ leafAt l0 l1 l2 l3 m < 4294967296 := fun m => by unfold leafAt; (repeat' split) <;> omega
  obtain ⟨SS, hSS⟩ : ∃ SS, SS = ofL (cells10L 2 l0 l1 l2 l3 4) := ⟨_, rfl⟩
  have hSl : SS.length ≤ 1000 := by rw [hSS]; exact Nat.le_trans (ofL_le _) (Nat.le_trans (cells10L_len 2 l0 l1 l2 l3 4) (by omega))
  have cCel : ∀ gl W, Kd.C (Kd.int .u32) W (some ⟨gl, 0, none⟩) [l0, l1, l2, l3].length [l0, l1, l2, l3] → Calls Tryd.prog 12 #[.int .i64 2, .slice (some ⟨gl, 0, none⟩) 4 4] W fun e w' => ∃ v0_ : Value, e = .returned (v0_) ∧ Kd.R k42 42 w' W.heap.size (fun _ => True) v0_ (SS.map told) ∧ Below W.heap.size W w' := fun gl W hr => honeycombref10_Cells.calls 6000 2 (some ⟨gl, 0, none⟩) 4 [l0, l1, l2, l3] (SS.map told) W hr (Nat.le_refl _) (by rw [hSS]; exact cells10_f 6000 2 l0 l1 l2 l3 (by omega) hlf)
  have cLea := fun W A c (hr : Kd.C k42 W A (SS.map told).length (SS.map told)) hc => honeycombref10_Leaf.calls 2000 A c (SS.map told) 2 2 (midF g 4) W hr hc (by rw [leaf10_f 2000 SS 2 2 (by omega) hSl (by omega) (by omega), mid_leaf g SS (fun c => by rw [hSS, ofL_mem, hg]; exact cells10_mem 2 l0 l1 l2 l3 h0 h1 h2 h3 c)])
  rw [List.length_map] at cLea
  have hwant : ∀ (x y : Nat), x < 8 → y < 8 → stB g (x : Int) (y : Int) = lfQ l0 l1 l2 l3 x y / 2 ^ (8 * (y % 4) + 2 * (x % 4)) % 4 := fun x y hx hy => by rw [hg]; exact stB_of _ _ _ _ h0 h1 h2 h3 x y hx hy
  have hlq : ∀ x y, 0 ≤ lfQ l0 l1 l2 l3 x y ∧ lfQ l0 l1 l2 l3 x y < 4294967296 := fun x y => by unfold lfQ; (repeat' split) <;> omega
  have heq := q4_eq l0 l1 l2 l3
  have COF := Aside0.mk cOf
  have CQUA := Aside0.mk cQua
  have CMID := Aside0.mk cMid
  have CST0 := Aside0.mk cSt
  have CEMP := Aside0.mk cEmp
  have COWN := Aside0.mk cOwn
  have CCEL := Aside0.mk cCel
  have CLEA := Aside0.mk cLea
  have HW := Aside0.mk hwant
  have HLQ := Aside0.mk hlq
  have HNONE := Aside0.mk hnone
  have HG := Aside0.mk hG
  have HEQ := Aside0.mk heq
  clear hG h0 h0' h1 h1' h2 h2' h3 h3' cOf cQua cMid cSt cEmp cOwn cCel cLea hwant hlq hnone hlf hSl hSS hem gb hg heq
  go_enter Tryd.func5, Tryd.ntmps5
  go_upto_region 1 with (fail)
  obtain ⟨w1, hw1⟩ : ∃ W, W = w.alloc (lvO l0 l1 l2 l3) := ⟨_, rfl⟩
  have bl := by have := blk_new w (lvO l0 l1 l2 l3); rw [← hw1] at this; exact this
  have hB1 : Below w.heap.size w w1 := by rw [hw1]; exact (by with_reducible repeat (first | apply below_alloc | apply pw_below_drewN | apply below_drew | refine bset ?_ _ _ (by omega) _ | exact Below.refl _ _))
  rw [← hw1]
  obtain ⟨gl, hgl⟩ : ∃ g, g = w.heap.size := ⟨_, rfl⟩
  rw [← hgl] at bl ⊢
  clear hw1 hgl
  go_wp2_with fail
  refine (awk10_any w1 (HG.out.below hB1)).mono ?_
  rintro e w2 ⟨rfl, hb2⟩
  have hB2 := hB1.trans (hb2.mono hB1.size)
  have bl2 := blk_below bl hb2
  have c0 := blk_cell bl2 0
  have c1 := blk_cell bl2 1
  have c2 := blk_cell bl2 2
  have c3 := blk_cell bl2 3
  simp only [List.getElem?_toArray, List.getElem?_cons_zero, List.getElem?_cons_succ] at c0 c1 c2 c3
  clear bl hb2 hB1 HG
  go_wp2_with fail
  refine (COWN.out _).mono ?_
  rintro e w3 ⟨rfl, hb3⟩
  have hB3 := hB2.trans (hb3.mono hB2.size)
  have bl3 := blk_below bl2 hb3
  clear hb3 hB2 bl2 c0 c1 c2 c3
  go_wp2_with fail
  refine (COF.out _).mono ?_
  rintro e w4 ⟨rfl, hb4⟩
  have hB4 := hB3.trans (hb4.mono hB3.size)
  have bl4 := blk_below bl3 hb4
  clear hb4 hB3 bl3 COF
  go_upto_region 4 with (fail)
  obtain ⟨w5, hw5⟩ : ∃ W, W = w4.alloc (blkO g 52) := ⟨_, rfl⟩
  have bx5 : w5.heap[w4.heap.size]? = some (blkO g 52) := by rw [hw5]; exact blk_new _ _
  have hb5 : Below w4.heap.size w4 w5 := by rw [hw5]; exact below_alloc (Below.refl _ _) _
  rw [← hw5]
  obtain ⟨gx, hgx⟩ : ∃ g, g = w4.heap.size := ⟨_, rfl⟩
  rw [← hgx] at bx5 ⊢
  have hB5 := hB4.trans (hb5.mono hB4.size)
  have bl5 := blk_below bl4 hb5
  clear hw5 hgx hb5 hB4 bl4
  have R5 := Aside0.mk (And.intro bx5 (And.intro bl5 hB5))
  have key : ∃ wt : Int, stB g a b = wt := ⟨_, rfl⟩
  by_cases hin : (0 ≤ a ∧ a < 8) ∧ (0 ≤ b ∧ b < 8)
  · obtain ⟨⟨ha0, ha8⟩, hb0, hb8⟩ := hin
    obtain ⟨x, rfl⟩ := Int.eq_ofNat_of_zero_le ha0
    obtain ⟨y, rfl⟩ := Int.eq_ofNat_of_zero_le hb0
    have c0 := blk_cell bl5 0
    have c1 := blk_cell bl5 1
    have c2 := blk_cell bl5 2
    have c3 := blk_cell bl5 3
    simp only [List.getElem?_toArray, List.getElem?_cons_zero, List.getElem?_cons_succ] at c0 c1 c2 c3
    have hxy := HW.out x y (by omega) (by omega)
    have c9 := fun W => honeycombref09_State.calls 70 (lfQ l0 l1 l2 l3 x y) ((x % 4 : Nat) : Int) ((y % 4 : Nat) : Int) _ W (state9_f 70 _ (x % 4) (y % 4) (by omega) (by omega) (by omega) (HLQ.out x y).1 (HLQ.out x y).2)
    rw [← hxy] at c9
    have tx : Int.tmod (x : Int) 4 = ((x % 4 : Nat) : Int) := by rw [Int.tmod_eq_emod_of_nonneg (by omega)]; omega
    have ty : Int.tmod (y : Int) 4 = ((y % 4 : Nat) : Int) := by rw [Int.tmod_eq_emod_of_nonneg (by omega)]; omega
    have CST := CST0.out
    obtain ⟨wt, hwt⟩ : ∃ wt, wt = stB g (x : Int) (y : Int) := ⟨_, rfl⟩
    rw [← hwt] at CST c9
    by_cases hx4 : x < 4 <;> by_cases hy4 : y < 4
    · have dx : Int.tdiv (x : Int) 4 = 0 := by rw [Int.tdiv_eq_ediv_of_nonneg (by omega)]; omega
      have dy : Int.tdiv (y : Int) 4 = 0 := by rw [Int.tdiv_eq_ediv_of_nonneg (by omega)]; omega
      have hlv : lfQ l0 l1 l2 l3 x y = l0 := by unfold lfQ; rw [if_pos hy4, if_pos hx4]
      rw [hlv] at c9
      have C9 := Aside0.mk c9
      have CST := Aside0.mk CST
      have HH := Aside0.mk (And.intro hxy (And.intro hlv hwt))
      clear c9 hxy hlv hwt HH
      go_wp2_with fail
      refine (C9.out _).mono ?_
      rintro e w6 ⟨rfl, hd⟩
      have hb6 : Below w5.heap.size w5 w6 := by obtain ⟨nd, rfl⟩ := hd; exact (by with_reducible repeat (first | apply below_alloc | apply pw_below_drewN | apply below_drew | refine bset ?_ _ _ (by omega) _ | exact Below.refl _ _))
      obtain ⟨r1, r2, r3⟩ := R5.out
      have X6 := Aside0.mk (blk_below r1 hb6)
      have L6 := Aside0.mk (blk_below r2 hb6)
      have HB6 := Aside0.mk (r3.trans (hb6.mono r3.size))
      clear hd hb6 r1 r2 r3 c0 c1 c2 c3 bx5 bl5 hB5 R5 C9 tx ty dx dy
      have c0 := blk_cell L6.out 0
      have c1 := blk_cell L6.out 1
      have c2 := blk_cell L6.out 2
      have c3 := blk_cell L6.out 3
      simp only [List.getElem?_toArray, List.getElem?_cons_zero, List.getElem?_cons_succ] at c0 c1 c2 c3
      have hnone := HNONE.out
      go_upto_region 8 with (fail)
      clear hnone c0 c1 c2 c3
      have heq := HEQ.out
      have X5 := Aside0.mk (blk_drew X6.out)
      have L5 := Aside0.mk (blk_drew L6.out)
      have HB5 := Aside0.mk (below_drew HB6.out)
      have hS5 := S12.of X5.out L5.out
      clear X6 L6 HB6
      go_region_held3 (fun W => (W.cell? ⟨gx, 0, none⟩ = some (.int .u16 (g 0)) ∧ W.cell? ⟨gx, 1, none⟩ = some (.int .u16 (g 1)) ∧ W.cell? ⟨gx, 2, none⟩ = some (.int .u16 (g 2)) ∧ W.cell? ⟨gx, 3, none⟩ = some (.int .u16 (g 3)) ∧ W.cell? ⟨gx, 4, none⟩ = some (.int .u16 (g 4)) ∧ W.cell? ⟨gx, 5, none⟩ = some (.int .u16 (g 5)) ∧ W.cell? ⟨gx, 6, none⟩ = some (.int .u16 (g 6)) ∧ W.cell? ⟨gx, 7, none⟩ = some (.int .u16 (g 7))) ∧ (W.cell? ⟨gl, 0, none⟩ = some (.int .u32 l0) ∧ W.cell? ⟨gl, 1, none⟩ = some (.int .u32 l1) ∧ W.cell? ⟨gl, 2, none⟩ = some (.int .u32 l2) ∧ W.cell? ⟨gl, 3, none⟩ = some (.int .u32 l3)))
        (with_reducible assumption)
        (first
          | (go_at_call 25
             with_reducible refine (CQUA.out _).mono ?_
             rintro e w6 ⟨rfl, hb6⟩
             have z1 := HB5.out.size
             replace X5 := Aside0.mk (blk_below X5.out hb6)
             replace L5 := Aside0.mk (blk_below L5.out hb6)
             replace HB5 := Aside0.mk (HB5.out.trans (hb6.mono z1))
             have hS6 : S12 gx gl g l0 l1 l2 l3 w6 := S12.of X5.out L5.out
             clear z1 hb6)
          | (go_at_call 18
             with_reducible refine (COWN.out _).mono ?_
             rintro e w6 ⟨rfl, hb6⟩
             have z1 := HB5.out.size
             replace X5 := Aside0.mk (blk_below X5.out hb6)
             replace L5 := Aside0.mk (blk_below L5.out hb6)
             replace HB5 := Aside0.mk (HB5.out.trans (hb6.mono z1))
             have hS6 : S12 gx gl g l0 l1 l2 l3 w6 := S12.of X5.out L5.out
             clear z1 hb6)
          | (go_at_call 21
             with_reducible refine (CMID.out _).mono ?_
             rintro e w6 ⟨rfl, hb6⟩
             have z1 := HB5.out.size
             replace X5 := Aside0.mk (blk_below X5.out hb6)
             replace L5 := Aside0.mk (blk_below L5.out hb6)
             replace HB5 := Aside0.mk (HB5.out.trans (hb6.mono z1))
             have hS6 : S12 gx gl g l0 l1 l2 l3 w6 := S12.of X5.out L5.out
             clear z1 hb6)
          | (go_at_call 12
             with_reducible refine (CCEL.out _ _ (C_four L5.out)).mono ?_
             rintro e w6 ⟨vS, rfl, hR6, hb6⟩
             have z1 := HB5.out.size
             replace X5 := Aside0.mk (blk_below X5.out hb6)
             replace L5 := Aside0.mk (blk_below L5.out hb6)
             replace HB5 := Aside0.mk (HB5.out.trans (hb6.mono z1))
             have hS6 : S12 gx gl g l0 l1 l2 l3 w6 := S12.of X5.out L5.out
             obtain ⟨AS, cS, eS, hlS, hCS⟩ := Kd.R_reads hR6
             rw [List.length_map] at eS hlS hCS
             subst eS
             have RS := Aside0.mk hCS
             clear hR6 hCS
             clear z1 hb6)
          | (go_at_call 22
             with_reducible refine (CLEA.out _ _ _ RS.out hlS).mono ?_
             rintro e w6 ⟨rfl, hb6⟩
             clear RS hlS
             have z1 := HB5.out.size
             replace X5 := Aside0.mk (blk_below X5.out hb6)
             replace L5 := Aside0.mk (blk_below L5.out hb6)
             replace HB5 := Aside0.mk (HB5.out.trans (hb6.mono z1))
             have hS6 : S12 gx gl g l0 l1 l2 l3 w6 := S12.of X5.out L5.out
             clear z1 hb6)
          | (go_at_call 23
             with_reducible refine (CST.out _).mono ?_
             rintro e w6 ⟨rfl, hb6⟩
             have z1 := HB5.out.size
             replace X5 := Aside0.mk (blk_below X5.out hb6)
             replace L5 := Aside0.mk (blk_below L5.out hb6)
             replace HB5 := Aside0.mk (HB5.out.trans (hb6.mono z1))
             have hS6 : S12 gx gl g l0 l1 l2 l3 w6 := S12.of X5.out L5.out
             clear z1 hb6)
          | (go_at_call 26
             with_reducible refine (CEMP.out _).mono ?_
             rintro e w6 ⟨rfl, hb6⟩
             have z1 := HB5.out.size
             replace X5 := Aside0.mk (blk_below X5.out hb6)
             replace L5 := Aside0.mk (blk_below L5.out hb6)
             replace HB5 := Aside0.mk (HB5.out.trans (hb6.mono z1))
             have hS6 : S12 gx gl g l0 l1 l2 l3 w6 := S12.of X5.out L5.out
             clear z1 hb6))
      all_goals
        go_wp2
        go_ret
        exact ⟨rfl, HB5.out⟩
    · have dx : Int.tdiv (x : Int) 4 = 0 := by rw [Int.tdiv_eq_ediv_of_nonneg (by omega)]; omega
      have dy : Int.tdiv (y : Int) 4 = 1 := by rw [Int.tdiv_eq_ediv_of_nonneg (by omega)]; omega
      have hlv : lfQ l0 l1 l2 l3 x y = l2 := by unfold lfQ; rw [if_neg hy4, if_pos hx4]
      rw [hlv] at c9
      have C9 := Aside0.mk c9
      have CST := Aside0.mk CST
      have HH := Aside0.mk (And.intro hxy (And.intro hlv hwt))
      clear c9 hxy hlv hwt HH
      go_wp2_with fail
      refine (C9.out _).mono ?_
      rintro e w6 ⟨rfl, hd⟩
      have hb6 : Below w5.heap.size w5 w6 := by obtain ⟨nd, rfl⟩ := hd; exact (by with_reducible repeat (first | apply below_alloc | apply pw_below_drewN | apply below_drew | refine bset ?_ _ _ (by omega) _ | exact Below.refl _ _))
      obtain ⟨r1, r2, r3⟩ := R5.out
      have X6 := Aside0.mk (blk_below r1 hb6)
      have L6 := Aside0.mk (blk_below r2 hb6)
      have HB6 := Aside0.mk (r3.trans (hb6.mono r3.size))
      clear hd hb6 r1 r2 r3 c0 c1 c2 c3 bx5 bl5 hB5 R5 C9 tx ty dx dy
      have c0 := blk_cell L6.out 0
      have c1 := blk_cell L6.out 1
      have c2 := blk_cell L6.out 2
      have c3 := blk_cell L6.out 3
      simp only [List.getElem?_toArray, List.getElem?_cons_zero, List.getElem?_cons_succ] at c0 c1 c2 c3
      have hnone := HNONE.out
      go_upto_region 8 with (fail)
      clear hnone c0 c1 c2 c3
      have heq := HEQ.out
      have X5 := Aside0.mk (blk_drew X6.out)
      have L5 := Aside0.mk (blk_drew L6.out)
      have HB5 := Aside0.mk (below_drew HB6.out)
      have hS5 := S12.of X5.out L5.out
      clear X6 L6 HB6
      go_region_held3 (fun W => (W.cell? ⟨gx, 0, none⟩ = some (.int .u16 (g 0)) ∧ W.cell? ⟨gx, 1, none⟩ = some (.int .u16 (g 1)) ∧ W.cell? ⟨gx, 2, none⟩ = some (.int .u16 (g 2)) ∧ W.cell? ⟨gx, 3, none⟩ = some (.int .u16 (g 3)) ∧ W.cell? ⟨gx, 4, none⟩ = some (.int .u16 (g 4)) ∧ W.cell? ⟨gx, 5, none⟩ = some (.int .u16 (g 5)) ∧ W.cell? ⟨gx, 6, none⟩ = some (.int .u16 (g 6)) ∧ W.cell? ⟨gx, 7, none⟩ = some (.int .u16 (g 7))) ∧ (W.cell? ⟨gl, 0, none⟩ = some (.int .u32 l0) ∧ W.cell? ⟨gl, 1, none⟩ = some (.int .u32 l1) ∧ W.cell? ⟨gl, 2, none⟩ = some (.int .u32 l2) ∧ W.cell? ⟨gl, 3, none⟩ = some (.int .u32 l3)))
        (with_reducible assumption)
        (first
          | (go_at_call 25
             with_reducible refine (CQUA.out _).mono ?_
             rintro e w6 ⟨rfl, hb6⟩
             have z1 := HB5.out.size
             replace X5 := Aside0.mk (blk_below X5.out hb6)
             replace L5 := Aside0.mk (blk_below L5.out hb6)
             replace HB5 := Aside0.mk (HB5.out.trans (hb6.mono z1))
             have hS6 : S12 gx gl g l0 l1 l2 l3 w6 := S12.of X5.out L5.out
             clear z1 hb6)
          | (go_at_call 18
             with_reducible refine (COWN.out _).mono ?_
             rintro e w6 ⟨rfl, hb6⟩
             have z1 := HB5.out.size
             replace X5 := Aside0.mk (blk_below X5.out hb6)
             replace L5 := Aside0.mk (blk_below L5.out hb6)
             replace HB5 := Aside0.mk (HB5.out.trans (hb6.mono z1))
             have hS6 : S12 gx gl g l0 l1 l2 l3 w6 := S12.of X5.out L5.out
             clear z1 hb6)
          | (go_at_call 21
             with_reducible refine (CMID.out _).mono ?_
             rintro e w6 ⟨rfl, hb6⟩
             have z1 := HB5.out.size
             replace X5 := Aside0.mk (blk_below X5.out hb6)
             replace L5 := Aside0.mk (blk_below L5.out hb6)
             replace HB5 := Aside0.mk (HB5.out.trans (hb6.mono z1))
             have hS6 : S12 gx gl g l0 l1 l2 l3 w6 := S12.of X5.out L5.out
             clear z1 hb6)
          | (go_at_call 12
             with_reducible refine (CCEL.out _ _ (C_four L5.out)).mono ?_
             rintro e w6 ⟨vS, rfl, hR6, hb6⟩
             have z1 := HB5.out.size
             replace X5 := Aside0.mk (blk_below X5.out hb6)
             replace L5 := Aside0.mk (blk_below L5.out hb6)
             replace HB5 := Aside0.mk (HB5.out.trans (hb6.mono z1))
             have hS6 : S12 gx gl g l0 l1 l2 l3 w6 := S12.of X5.out L5.out
             obtain ⟨AS, cS, eS, hlS, hCS⟩ := Kd.R_reads hR6
             rw [List.length_map] at eS hlS hCS
             subst eS
             have RS := Aside0.mk hCS
             clear hR6 hCS
             clear z1 hb6)
          | (go_at_call 22
             with_reducible refine (CLEA.out _ _ _ RS.out hlS).mono ?_
             rintro e w6 ⟨rfl, hb6⟩
             clear RS hlS
             have z1 := HB5.out.size
             replace X5 := Aside0.mk (blk_below X5.out hb6)
             replace L5 := Aside0.mk (blk_below L5.out hb6)
             replace HB5 := Aside0.mk (HB5.out.trans (hb6.mono z1))
             have hS6 : S12 gx gl g l0 l1 l2 l3 w6 := S12.of X5.out L5.out
             clear z1 hb6)
          | (go_at_call 23
             with_reducible refine (CST.out _).mono ?_
             rintro e w6 ⟨rfl, hb6⟩
             have z1 := HB5.out.size
             replace X5 := Aside0.mk (blk_below X5.out hb6)
             replace L5 := Aside0.mk (blk_below L5.out hb6)
             replace HB5 := Aside0.mk (HB5.out.trans (hb6.mono z1))
             have hS6 : S12 gx gl g l0 l1 l2 l3 w6 := S12.of X5.out L5.out
             clear z1 hb6)
          | (go_at_call 26
             with_reducible refine (CEMP.out _).mono ?_
             rintro e w6 ⟨rfl, hb6⟩
             have z1 := HB5.out.size
             replace X5 := Aside0.mk (blk_below X5.out hb6)
             replace L5 := Aside0.mk (blk_below L5.out hb6)
             replace HB5 := Aside0.mk (HB5.out.trans (hb6.mono z1))
             have hS6 : S12 gx gl g l0 l1 l2 l3 w6 := S12.of X5.out L5.out
             clear z1 hb6))
      all_goals
        go_wp2
        go_ret
        exact ⟨rfl, HB5.out⟩
    · have dx : Int.tdiv (x : Int) 4 = 1 := by rw [Int.tdiv_eq_ediv_of_nonneg (by omega)]; omega
      have dy : Int.tdiv (y : Int) 4 = 0 := by rw [Int.tdiv_eq_ediv_of_nonneg (by omega)]; omega
      have hlv : lfQ l0 l1 l2 l3 x y = l1 := by unfold lfQ; rw [if_pos hy4, if_neg hx4]
      rw [hlv] at c9
      have C9 := Aside0.mk c9
      have CST := Aside0.mk CST
      have HH := Aside0.mk (And.intro hxy (And.intro hlv hwt))
      clear c9 hxy hlv hwt HH
      go_wp2_with fail
      refine (C9.out _).mono ?_
      rintro e w6 ⟨rfl, hd⟩
      have hb6 : Below w5.heap.size w5 w6 := by obtain ⟨nd, rfl⟩ := hd; exact (by with_reducible repeat (first | apply below_alloc | apply pw_below_drewN | apply below_drew | refine bset ?_ _ _ (by omega) _ | exact Below.refl _ _))
      obtain ⟨r1, r2, r3⟩ := R5.out
      have X6 := Aside0.mk (blk_below r1 hb6)
      have L6 := Aside0.mk (blk_below r2 hb6)
      have HB6 := Aside0.mk (r3.trans (hb6.mono r3.size))
      clear hd hb6 r1 r2 r3 c0 c1 c2 c3 bx5 bl5 hB5 R5 C9 tx ty dx dy
      have c0 := blk_cell L6.out 0
      have c1 := blk_cell L6.out 1
      have c2 := blk_cell L6.out 2
      have c3 := blk_cell L6.out 3
      simp only [List.getElem?_toArray, List.getElem?_cons_zero, List.getElem?_cons_succ] at c0 c1 c2 c3
      have hnone := HNONE.out
      go_upto_region 8 with (fail)
      clear hnone c0 c1 c2 c3
      have heq := HEQ.out
      have X5 := Aside0.mk (blk_drew X6.out)
      have L5 := Aside0.mk (blk_drew L6.out)
      have HB5 := Aside0.mk (below_drew HB6.out)
      have hS5 := S12.of X5.out L5.out
      clear X6 L6 HB6
      go_region_held3 (fun W => (W.cell? ⟨gx, 0, none⟩ = some (.int .u16 (g 0)) ∧ W.cell? ⟨gx, 1, none⟩ = some (.int .u16 (g 1)) ∧ W.cell? ⟨gx, 2, none⟩ = some (.int .u16 (g 2)) ∧ W.cell? ⟨gx, 3, none⟩ = some (.int .u16 (g 3)) ∧ W.cell? ⟨gx, 4, none⟩ = some (.int .u16 (g 4)) ∧ W.cell? ⟨gx, 5, none⟩ = some (.int .u16 (g 5)) ∧ W.cell? ⟨gx, 6, none⟩ = some (.int .u16 (g 6)) ∧ W.cell? ⟨gx, 7, none⟩ = some (.int .u16 (g 7))) ∧ (W.cell? ⟨gl, 0, none⟩ = some (.int .u32 l0) ∧ W.cell? ⟨gl, 1, none⟩ = some (.int .u32 l1) ∧ W.cell? ⟨gl, 2, none⟩ = some (.int .u32 l2) ∧ W.cell? ⟨gl, 3, none⟩ = some (.int .u32 l3)))
        (with_reducible assumption)
        (first
          | (go_at_call 25
             with_reducible refine (CQUA.out _).mono ?_
             rintro e w6 ⟨rfl, hb6⟩
             have z1 := HB5.out.size
             replace X5 := Aside0.mk (blk_below X5.out hb6)
             replace L5 := Aside0.mk (blk_below L5.out hb6)
             replace HB5 := Aside0.mk (HB5.out.trans (hb6.mono z1))
             have hS6 : S12 gx gl g l0 l1 l2 l3 w6 := S12.of X5.out L5.out
             clear z1 hb6)
          | (go_at_call 18
             with_reducible refine (COWN.out _).mono ?_
             rintro e w6 ⟨rfl, hb6⟩
             have z1 := HB5.out.size
             replace X5 := Aside0.mk (blk_below X5.out hb6)
             replace L5 := Aside0.mk (blk_below L5.out hb6)
             replace HB5 := Aside0.mk (HB5.out.trans (hb6.mono z1))
             have hS6 : S12 gx gl g l0 l1 l2 l3 w6 := S12.of X5.out L5.out
             clear z1 hb6)
          | (go_at_call 21
             with_reducible refine (CMID.out _).mono ?_
             rintro e w6 ⟨rfl, hb6⟩
             have z1 := HB5.out.size
             replace X5 := Aside0.mk (blk_below X5.out hb6)
             replace L5 := Aside0.mk (blk_below L5.out hb6)
             replace HB5 := Aside0.mk (HB5.out.trans (hb6.mono z1))
             have hS6 : S12 gx gl g l0 l1 l2 l3 w6 := S12.of X5.out L5.out
             clear z1 hb6)
          | (go_at_call 12
             with_reducible refine (CCEL.out _ _ (C_four L5.out)).mono ?_
             rintro e w6 ⟨vS, rfl, hR6, hb6⟩
             have z1 := HB5.out.size
             replace X5 := Aside0.mk (blk_below X5.out hb6)
             replace L5 := Aside0.mk (blk_below L5.out hb6)
             replace HB5 := Aside0.mk (HB5.out.trans (hb6.mono z1))
             have hS6 : S12 gx gl g l0 l1 l2 l3 w6 := S12.of X5.out L5.out
             obtain ⟨AS, cS, eS, hlS, hCS⟩ := Kd.R_reads hR6
             rw [List.length_map] at eS hlS hCS
             subst eS
             have RS := Aside0.mk hCS
             clear hR6 hCS
             clear z1 hb6)
          | (go_at_call 22
             with_reducible refine (CLEA.out _ _ _ RS.out hlS).mono ?_
             rintro e w6 ⟨rfl, hb6⟩
             clear RS hlS
             have z1 := HB5.out.size
             replace X5 := Aside0.mk (blk_below X5.out hb6)
             replace L5 := Aside0.mk (blk_below L5.out hb6)
             replace HB5 := Aside0.mk (HB5.out.trans (hb6.mono z1))
             have hS6 : S12 gx gl g l0 l1 l2 l3 w6 := S12.of X5.out L5.out
             clear z1 hb6)
          | (go_at_call 23
             with_reducible refine (CST.out _).mono ?_
             rintro e w6 ⟨rfl, hb6⟩
             have z1 := HB5.out.size
             replace X5 := Aside0.mk (blk_below X5.out hb6)
             replace L5 := Aside0.mk (blk_below L5.out hb6)
             replace HB5 := Aside0.mk (HB5.out.trans (hb6.mono z1))
             have hS6 : S12 gx gl g l0 l1 l2 l3 w6 := S12.of X5.out L5.out
             clear z1 hb6)
          | (go_at_call 26
             with_reducible refine (CEMP.out _).mono ?_
             rintro e w6 ⟨rfl, hb6⟩
             have z1 := HB5.out.size
             replace X5 := Aside0.mk (blk_below X5.out hb6)
             replace L5 := Aside0.mk (blk_below L5.out hb6)
             replace HB5 := Aside0.mk (HB5.out.trans (hb6.mono z1))
             have hS6 : S12 gx gl g l0 l1 l2 l3 w6 := S12.of X5.out L5.out
             clear z1 hb6))
      all_goals
        go_wp2
        go_ret
        exact ⟨rfl, HB5.out⟩
    · have dx : Int.tdiv (x : Int) 4 = 1 := by rw [Int.tdiv_eq_ediv_of_nonneg (by omega)]; omega
      have dy : Int.tdiv (y : Int) 4 = 1 := by rw [Int.tdiv_eq_ediv_of_nonneg (by omega)]; omega
      have hlv : lfQ l0 l1 l2 l3 x y = l3 := by unfold lfQ; rw [if_neg hy4, if_neg hx4]
      rw [hlv] at c9
      have C9 := Aside0.mk c9
      have CST := Aside0.mk CST
      have HH := Aside0.mk (And.intro hxy (And.intro hlv hwt))
      clear c9 hxy hlv hwt HH
      go_wp2_with fail
      refine (C9.out _).mono ?_
      rintro e w6 ⟨rfl, hd⟩
      have hb6 : Below w5.heap.size w5 w6 := by obtain ⟨nd, rfl⟩ := hd; exact (by with_reducible repeat (first | apply below_alloc | apply pw_below_drewN | apply below_drew | refine bset ?_ _ _ (by omega) _ | exact Below.refl _ _))
      obtain ⟨r1, r2, r3⟩ := R5.out
      have X6 := Aside0.mk (blk_below r1 hb6)
      have L6 := Aside0.mk (blk_below r2 hb6)
      have HB6 := Aside0.mk (r3.trans (hb6.mono r3.size))
      clear hd hb6 r1 r2 r3 c0 c1 c2 c3 bx5 bl5 hB5 R5 C9 tx ty dx dy
      have c0 := blk_cell L6.out 0
      have c1 := blk_cell L6.out 1
      have c2 := blk_cell L6.out 2
      have c3 := blk_cell L6.out 3
      simp only [List.getElem?_toArray, List.getElem?_cons_zero, List.getElem?_cons_succ] at c0 c1 c2 c3
      have hnone := HNONE.out
      go_upto_region 8 with (fail)
      clear hnone c0 c1 c2 c3
      have heq := HEQ.out
      have X5 := Aside0.mk (blk_drew X6.out)
      have L5 := Aside0.mk (blk_drew L6.out)
      have HB5 := Aside0.mk (below_drew HB6.out)
      have hS5 := S12.of X5.out L5.out
      clear X6 L6 HB6
      go_region_held3 (fun W => (W.cell? ⟨gx, 0, none⟩ = some (.int .u16 (g 0)) ∧ W.cell? ⟨gx, 1, none⟩ = some (.int .u16 (g 1)) ∧ W.cell? ⟨gx, 2, none⟩ = some (.int .u16 (g 2)) ∧ W.cell? ⟨gx, 3, none⟩ = some (.int .u16 (g 3)) ∧ W.cell? ⟨gx, 4, none⟩ = some (.int .u16 (g 4)) ∧ W.cell? ⟨gx, 5, none⟩ = some (.int .u16 (g 5)) ∧ W.cell? ⟨gx, 6, none⟩ = some (.int .u16 (g 6)) ∧ W.cell? ⟨gx, 7, none⟩ = some (.int .u16 (g 7))) ∧ (W.cell? ⟨gl, 0, none⟩ = some (.int .u32 l0) ∧ W.cell? ⟨gl, 1, none⟩ = some (.int .u32 l1) ∧ W.cell? ⟨gl, 2, none⟩ = some (.int .u32 l2) ∧ W.cell? ⟨gl, 3, none⟩ = some (.int .u32 l3)))
        (with_reducible assumption)
        (first
          | (go_at_call 25
             with_reducible refine (CQUA.out _).mono ?_
             rintro e w6 ⟨rfl, hb6⟩
             have z1 := HB5.out.size
             replace X5 := Aside0.mk (blk_below X5.out hb6)
             replace L5 := Aside0.mk (blk_below L5.out hb6)
             replace HB5 := Aside0.mk (HB5.out.trans (hb6.mono z1))
             have hS6 : S12 gx gl g l0 l1 l2 l3 w6 := S12.of X5.out L5.out
             clear z1 hb6)
          | (go_at_call 18
             with_reducible refine (COWN.out _).mono ?_
             rintro e w6 ⟨rfl, hb6⟩
             have z1 := HB5.out.size
             replace X5 := Aside0.mk (blk_below X5.out hb6)
             replace L5 := Aside0.mk (blk_below L5.out hb6)
             replace HB5 := Aside0.mk (HB5.out.trans (hb6.mono z1))
             have hS6 : S12 gx gl g l0 l1 l2 l3 w6 := S12.of X5.out L5.out
             clear z1 hb6)
          | (go_at_call 21
             with_reducible refine (CMID.out _).mono ?_
             rintro e w6 ⟨rfl, hb6⟩
             have z1 := HB5.out.size
             replace X5 := Aside0.mk (blk_below X5.out hb6)
             replace L5 := Aside0.mk (blk_below L5.out hb6)
             replace HB5 := Aside0.mk (HB5.out.trans (hb6.mono z1))
             have hS6 : S12 gx gl g l0 l1 l2 l3 w6 := S12.of X5.out L5.out
             clear z1 hb6)
          | (go_at_call 12
             with_reducible refine (CCEL.out _ _ (C_four L5.out)).mono ?_
             rintro e w6 ⟨vS, rfl, hR6, hb6⟩
             have z1 := HB5.out.size
             replace X5 := Aside0.mk (blk_below X5.out hb6)
             replace L5 := Aside0.mk (blk_below L5.out hb6)
             replace HB5 := Aside0.mk (HB5.out.trans (hb6.mono z1))
             have hS6 : S12 gx gl g l0 l1 l2 l3 w6 := S12.of X5.out L5.out
             obtain ⟨AS, cS, eS, hlS, hCS⟩ := Kd.R_reads hR6
             rw [List.length_map] at eS hlS hCS
             subst eS
             have RS := Aside0.mk hCS
             clear hR6 hCS
             clear z1 hb6)
          | (go_at_call 22
             with_reducible refine (CLEA.out _ _ _ RS.out hlS).mono ?_
             rintro e w6 ⟨rfl, hb6⟩
             clear RS hlS
             have z1 := HB5.out.size
             replace X5 := Aside0.mk (blk_below X5.out hb6)
             replace L5 := Aside0.mk (blk_below L5.out hb6)
             replace HB5 := Aside0.mk (HB5.out.trans (hb6.mono z1))
             have hS6 : S12 gx gl g l0 l1 l2 l3 w6 := S12.of X5.out L5.out
             clear z1 hb6)
          | (go_at_call 23
             with_reducible refine (CST.out _).mono ?_
             rintro e w6 ⟨rfl, hb6⟩
             have z1 := HB5.out.size
             replace X5 := Aside0.mk (blk_below X5.out hb6)
             replace L5 := Aside0.mk (blk_below L5.out hb6)
             replace HB5 := Aside0.mk (HB5.out.trans (hb6.mono z1))
             have hS6 : S12 gx gl g l0 l1 l2 l3 w6 := S12.of X5.out L5.out
             clear z1 hb6)
          | (go_at_call 26
             with_reducible refine (CEMP.out _).mono ?_
             rintro e w6 ⟨rfl, hb6⟩
             have z1 := HB5.out.size
             replace X5 := Aside0.mk (blk_below X5.out hb6)
             replace L5 := Aside0.mk (blk_below L5.out hb6)
             replace HB5 := Aside0.mk (HB5.out.trans (hb6.mono z1))
             have hS6 : S12 gx gl g l0 l1 l2 l3 w6 := S12.of X5.out L5.out
             clear z1 hb6))
      all_goals
        go_wp2
        go_ret
        exact ⟨rfl, HB5.out⟩
  · have hst : stB g a b = 0 := by
      unfold stB
      rw [if_pos (by omega)]
    have CST := CST0.out
    rw [hst] at CST
    have CST := Aside0.mk CST
    have X6 := Aside0.mk bx5
    have L6 := Aside0.mk bl5
    have HB6 := Aside0.mk hB5
    clear hst bx5 bl5 hB5 R5 HW HLQ
    by_cases g1 : 0 ≤ a
    · by_cases g2 : a < 8
      · by_cases g3 : 0 ≤ b
        · have g4 : ¬ b < 8 := by omega
          have c0 := blk_cell L6.out 0
          have c1 := blk_cell L6.out 1
          have c2 := blk_cell L6.out 2
          have c3 := blk_cell L6.out 3
          simp only [List.getElem?_toArray, List.getElem?_cons_zero, List.getElem?_cons_succ] at c0 c1 c2 c3
          have hnone := HNONE.out
          go_upto_region 8 with (fail)
          clear hnone c0 c1 c2 c3
          have heq := HEQ.out
          have X5 := Aside0.mk (blk_drew X6.out)
          have L5 := Aside0.mk (blk_drew L6.out)
          have HB5 := Aside0.mk (below_drew HB6.out)
          have hS5 := S12.of X5.out L5.out
          clear X6 L6 HB6
          go_region_held3 (fun W => (W.cell? ⟨gx, 0, none⟩ = some (.int .u16 (g 0)) ∧ W.cell? ⟨gx, 1, none⟩ = some (.int .u16 (g 1)) ∧ W.cell? ⟨gx, 2, none⟩ = some (.int .u16 (g 2)) ∧ W.cell? ⟨gx, 3, none⟩ = some (.int .u16 (g 3)) ∧ W.cell? ⟨gx, 4, none⟩ = some (.int .u16 (g 4)) ∧ W.cell? ⟨gx, 5, none⟩ = some (.int .u16 (g 5)) ∧ W.cell? ⟨gx, 6, none⟩ = some (.int .u16 (g 6)) ∧ W.cell? ⟨gx, 7, none⟩ = some (.int .u16 (g 7))) ∧ (W.cell? ⟨gl, 0, none⟩ = some (.int .u32 l0) ∧ W.cell? ⟨gl, 1, none⟩ = some (.int .u32 l1) ∧ W.cell? ⟨gl, 2, none⟩ = some (.int .u32 l2) ∧ W.cell? ⟨gl, 3, none⟩ = some (.int .u32 l3)))
            (with_reducible assumption)
            (first
              | (go_at_call 25
                 with_reducible refine (CQUA.out _).mono ?_
                 rintro e w6 ⟨rfl, hb6⟩
                 have z1 := HB5.out.size
                 replace X5 := Aside0.mk (blk_below X5.out hb6)
                 replace L5 := Aside0.mk (blk_below L5.out hb6)
                 replace HB5 := Aside0.mk (HB5.out.trans (hb6.mono z1))
                 have hS6 : S12 gx gl g l0 l1 l2 l3 w6 := S12.of X5.out L5.out
                 clear z1 hb6)
              | (go_at_call 18
                 with_reducible refine (COWN.out _).mono ?_
                 rintro e w6 ⟨rfl, hb6⟩
                 have z1 := HB5.out.size
                 replace X5 := Aside0.mk (blk_below X5.out hb6)
                 replace L5 := Aside0.mk (blk_below L5.out hb6)
                 replace HB5 := Aside0.mk (HB5.out.trans (hb6.mono z1))
                 have hS6 : S12 gx gl g l0 l1 l2 l3 w6 := S12.of X5.out L5.out
                 clear z1 hb6)
              | (go_at_call 21
                 with_reducible refine (CMID.out _).mono ?_
                 rintro e w6 ⟨rfl, hb6⟩
                 have z1 := HB5.out.size
                 replace X5 := Aside0.mk (blk_below X5.out hb6)
                 replace L5 := Aside0.mk (blk_below L5.out hb6)
                 replace HB5 := Aside0.mk (HB5.out.trans (hb6.mono z1))
                 have hS6 : S12 gx gl g l0 l1 l2 l3 w6 := S12.of X5.out L5.out
                 clear z1 hb6)
              | (go_at_call 12
                 with_reducible refine (CCEL.out _ _ (C_four L5.out)).mono ?_
                 rintro e w6 ⟨vS, rfl, hR6, hb6⟩
                 have z1 := HB5.out.size
                 replace X5 := Aside0.mk (blk_below X5.out hb6)
                 replace L5 := Aside0.mk (blk_below L5.out hb6)
                 replace HB5 := Aside0.mk (HB5.out.trans (hb6.mono z1))
                 have hS6 : S12 gx gl g l0 l1 l2 l3 w6 := S12.of X5.out L5.out
                 obtain ⟨AS, cS, eS, hlS, hCS⟩ := Kd.R_reads hR6
                 rw [List.length_map] at eS hlS hCS
                 subst eS
                 have RS := Aside0.mk hCS
                 clear hR6 hCS
                 clear z1 hb6)
              | (go_at_call 22
                 with_reducible refine (CLEA.out _ _ _ RS.out hlS).mono ?_
                 rintro e w6 ⟨rfl, hb6⟩
                 clear RS hlS
                 have z1 := HB5.out.size
                 replace X5 := Aside0.mk (blk_below X5.out hb6)
                 replace L5 := Aside0.mk (blk_below L5.out hb6)
                 replace HB5 := Aside0.mk (HB5.out.trans (hb6.mono z1))
                 have hS6 : S12 gx gl g l0 l1 l2 l3 w6 := S12.of X5.out L5.out
                 clear z1 hb6)
              | (go_at_call 23
                 with_reducible refine (CST.out _).mono ?_
                 rintro e w6 ⟨rfl, hb6⟩
                 have z1 := HB5.out.size
                 replace X5 := Aside0.mk (blk_below X5.out hb6)
                 replace L5 := Aside0.mk (blk_below L5.out hb6)
                 replace HB5 := Aside0.mk (HB5.out.trans (hb6.mono z1))
                 have hS6 : S12 gx gl g l0 l1 l2 l3 w6 := S12.of X5.out L5.out
                 clear z1 hb6)
              | (go_at_call 26
                 with_reducible refine (CEMP.out _).mono ?_
                 rintro e w6 ⟨rfl, hb6⟩
                 have z1 := HB5.out.size
                 replace X5 := Aside0.mk (blk_below X5.out hb6)
                 replace L5 := Aside0.mk (blk_below L5.out hb6)
                 replace HB5 := Aside0.mk (HB5.out.trans (hb6.mono z1))
                 have hS6 : S12 gx gl g l0 l1 l2 l3 w6 := S12.of X5.out L5.out
                 clear z1 hb6))
          all_goals
            go_wp2
            go_ret
            exact ⟨rfl, HB5.out⟩
        · have c0 := blk_cell L6.out 0
          have c1 := blk_cell L6.out 1
          have c2 := blk_cell L6.out 2
          have c3 := blk_cell L6.out 3
          simp only [List.getElem?_toArray, List.getElem?_cons_zero, List.getElem?_cons_succ] at c0 c1 c2 c3
          have hnone := HNONE.out
          go_upto_region 8 with (fail)
          clear hnone c0 c1 c2 c3
          have heq := HEQ.out
          have X5 := Aside0.mk (blk_drew X6.out)
          have L5 := Aside0.mk (blk_drew L6.out)
          have HB5 := Aside0.mk (below_drew HB6.out)
          have hS5 := S12.of X5.out L5.out
          clear X6 L6 HB6
          go_region_held3 (fun W => (W.cell? ⟨gx, 0, none⟩ = some (.int .u16 (g 0)) ∧ W.cell? ⟨gx, 1, none⟩ = some (.int .u16 (g 1)) ∧ W.cell? ⟨gx, 2, none⟩ = some (.int .u16 (g 2)) ∧ W.cell? ⟨gx, 3, none⟩ = some (.int .u16 (g 3)) ∧ W.cell? ⟨gx, 4, none⟩ = some (.int .u16 (g 4)) ∧ W.cell? ⟨gx, 5, none⟩ = some (.int .u16 (g 5)) ∧ W.cell? ⟨gx, 6, none⟩ = some (.int .u16 (g 6)) ∧ W.cell? ⟨gx, 7, none⟩ = some (.int .u16 (g 7))) ∧ (W.cell? ⟨gl, 0, none⟩ = some (.int .u32 l0) ∧ W.cell? ⟨gl, 1, none⟩ = some (.int .u32 l1) ∧ W.cell? ⟨gl, 2, none⟩ = some (.int .u32 l2) ∧ W.cell? ⟨gl, 3, none⟩ = some (.int .u32 l3)))
            (with_reducible assumption)
            (first
              | (go_at_call 25
                 with_reducible refine (CQUA.out _).mono ?_
                 rintro e w6 ⟨rfl, hb6⟩
                 have z1 := HB5.out.size
                 replace X5 := Aside0.mk (blk_below X5.out hb6)
                 replace L5 := Aside0.mk (blk_below L5.out hb6)
                 replace HB5 := Aside0.mk (HB5.out.trans (hb6.mono z1))
                 have hS6 : S12 gx gl g l0 l1 l2 l3 w6 := S12.of X5.out L5.out
                 clear z1 hb6)
              | (go_at_call 18
                 with_reducible refine (COWN.out _).mono ?_
                 rintro e w6 ⟨rfl, hb6⟩
                 have z1 := HB5.out.size
                 replace X5 := Aside0.mk (blk_below X5.out hb6)
                 replace L5 := Aside0.mk (blk_below L5.out hb6)
                 replace HB5 := Aside0.mk (HB5.out.trans (hb6.mono z1))
                 have hS6 : S12 gx gl g l0 l1 l2 l3 w6 := S12.of X5.out L5.out
                 clear z1 hb6)
              | (go_at_call 21
                 with_reducible refine (CMID.out _).mono ?_
                 rintro e w6 ⟨rfl, hb6⟩
                 have z1 := HB5.out.size
                 replace X5 := Aside0.mk (blk_below X5.out hb6)
                 replace L5 := Aside0.mk (blk_below L5.out hb6)
                 replace HB5 := Aside0.mk (HB5.out.trans (hb6.mono z1))
                 have hS6 : S12 gx gl g l0 l1 l2 l3 w6 := S12.of X5.out L5.out
                 clear z1 hb6)
              | (go_at_call 12
                 with_reducible refine (CCEL.out _ _ (C_four L5.out)).mono ?_
                 rintro e w6 ⟨vS, rfl, hR6, hb6⟩
                 have z1 := HB5.out.size
                 replace X5 := Aside0.mk (blk_below X5.out hb6)
                 replace L5 := Aside0.mk (blk_below L5.out hb6)
                 replace HB5 := Aside0.mk (HB5.out.trans (hb6.mono z1))
                 have hS6 : S12 gx gl g l0 l1 l2 l3 w6 := S12.of X5.out L5.out
                 obtain ⟨AS, cS, eS, hlS, hCS⟩ := Kd.R_reads hR6
                 rw [List.length_map] at eS hlS hCS
                 subst eS
                 have RS := Aside0.mk hCS
                 clear hR6 hCS
                 clear z1 hb6)
              | (go_at_call 22
                 with_reducible refine (CLEA.out _ _ _ RS.out hlS).mono ?_
                 rintro e w6 ⟨rfl, hb6⟩
                 clear RS hlS
                 have z1 := HB5.out.size
                 replace X5 := Aside0.mk (blk_below X5.out hb6)
                 replace L5 := Aside0.mk (blk_below L5.out hb6)
                 replace HB5 := Aside0.mk (HB5.out.trans (hb6.mono z1))
                 have hS6 : S12 gx gl g l0 l1 l2 l3 w6 := S12.of X5.out L5.out
                 clear z1 hb6)
              | (go_at_call 23
                 with_reducible refine (CST.out _).mono ?_
                 rintro e w6 ⟨rfl, hb6⟩
                 have z1 := HB5.out.size
                 replace X5 := Aside0.mk (blk_below X5.out hb6)
                 replace L5 := Aside0.mk (blk_below L5.out hb6)
                 replace HB5 := Aside0.mk (HB5.out.trans (hb6.mono z1))
                 have hS6 : S12 gx gl g l0 l1 l2 l3 w6 := S12.of X5.out L5.out
                 clear z1 hb6)
              | (go_at_call 26
                 with_reducible refine (CEMP.out _).mono ?_
                 rintro e w6 ⟨rfl, hb6⟩
                 have z1 := HB5.out.size
                 replace X5 := Aside0.mk (blk_below X5.out hb6)
                 replace L5 := Aside0.mk (blk_below L5.out hb6)
                 replace HB5 := Aside0.mk (HB5.out.trans (hb6.mono z1))
                 have hS6 : S12 gx gl g l0 l1 l2 l3 w6 := S12.of X5.out L5.out
                 clear z1 hb6))
          all_goals
            go_wp2
            go_ret
            exact ⟨rfl, HB5.out⟩
      · have c0 := blk_cell L6.out 0
        have c1 := blk_cell L6.out 1
        have c2 := blk_cell L6.out 2
        have c3 := blk_cell L6.out 3
        simp only [List.getElem?_toArray, List.getElem?_cons_zero, List.getElem?_cons_succ] at c0 c1 c2 c3
        have hnone := HNONE.out
        go_upto_region 8 with (fail)
        clear hnone c0 c1 c2 c3
        have heq := HEQ.out
        have X5 := Aside0.mk (blk_drew X6.out)
        have L5 := Aside0.mk (blk_drew L6.out)
        have HB5 := Aside0.mk (below_drew HB6.out)
        have hS5 := S12.of X5.out L5.out
        clear X6 L6 HB6
        go_region_held3 (fun W => (W.cell? ⟨gx, 0, none⟩ = some (.int .u16 (g 0)) ∧ W.cell? ⟨gx, 1, none⟩ = some (.int .u16 (g 1)) ∧ W.cell? ⟨gx, 2, none⟩ = some (.int .u16 (g 2)) ∧ W.cell? ⟨gx, 3, none⟩ = some (.int .u16 (g 3)) ∧ W.cell? ⟨gx, 4, none⟩ = some (.int .u16 (g 4)) ∧ W.cell? ⟨gx, 5, none⟩ = some (.int .u16 (g 5)) ∧ W.cell? ⟨gx, 6, none⟩ = some (.int .u16 (g 6)) ∧ W.cell? ⟨gx, 7, none⟩ = some (.int .u16 (g 7))) ∧ (W.cell? ⟨gl, 0, none⟩ = some (.int .u32 l0) ∧ W.cell? ⟨gl, 1, none⟩ = some (.int .u32 l1) ∧ W.cell? ⟨gl, 2, none⟩ = some (.int .u32 l2) ∧ W.cell? ⟨gl, 3, none⟩ = some (.int .u32 l3)))
          (with_reducible assumption)
          (first
            | (go_at_call 25
               with_reducible refine (CQUA.out _).mono ?_
               rintro e w6 ⟨rfl, hb6⟩
               have z1 := HB5.out.size
               replace X5 := Aside0.mk (blk_below X5.out hb6)
               replace L5 := Aside0.mk (blk_below L5.out hb6)
               replace HB5 := Aside0.mk (HB5.out.trans (hb6.mono z1))
               have hS6 : S12 gx gl g l0 l1 l2 l3 w6 := S12.of X5.out L5.out
               clear z1 hb6)
            | (go_at_call 18
               with_reducible refine (COWN.out _).mono ?_
               rintro e w6 ⟨rfl, hb6⟩
               have z1 := HB5.out.size
               replace X5 := Aside0.mk (blk_below X5.out hb6)
               replace L5 := Aside0.mk (blk_below L5.out hb6)
               replace HB5 := Aside0.mk (HB5.out.trans (hb6.mono z1))
               have hS6 : S12 gx gl g l0 l1 l2 l3 w6 := S12.of X5.out L5.out
               clear z1 hb6)
            | (go_at_call 21
               with_reducible refine (CMID.out _).mono ?_
               rintro e w6 ⟨rfl, hb6⟩
               have z1 := HB5.out.size
               replace X5 := Aside0.mk (blk_below X5.out hb6)
               replace L5 := Aside0.mk (blk_below L5.out hb6)
               replace HB5 := Aside0.mk (HB5.out.trans (hb6.mono z1))
               have hS6 : S12 gx gl g l0 l1 l2 l3 w6 := S12.of X5.out L5.out
               clear z1 hb6)
            | (go_at_call 12
               with_reducible refine (CCEL.out _ _ (C_four L5.out)).mono ?_
               rintro e w6 ⟨vS, rfl, hR6, hb6⟩
               have z1 := HB5.out.size
               replace X5 := Aside0.mk (blk_below X5.out hb6)
               replace L5 := Aside0.mk (blk_below L5.out hb6)
               replace HB5 := Aside0.mk (HB5.out.trans (hb6.mono z1))
               have hS6 : S12 gx gl g l0 l1 l2 l3 w6 := S12.of X5.out L5.out
               obtain ⟨AS, cS, eS, hlS, hCS⟩ := Kd.R_reads hR6
               rw [List.length_map] at eS hlS hCS
               subst eS
               have RS := Aside0.mk hCS
               clear hR6 hCS
               clear z1 hb6)
            | (go_at_call 22
               with_reducible refine (CLEA.out _ _ _ RS.out hlS).mono ?_
               rintro e w6 ⟨rfl, hb6⟩
               clear RS hlS
               have z1 := HB5.out.size
               replace X5 := Aside0.mk (blk_below X5.out hb6)
               replace L5 := Aside0.mk (blk_below L5.out hb6)
               replace HB5 := Aside0.mk (HB5.out.trans (hb6.mono z1))
               have hS6 : S12 gx gl g l0 l1 l2 l3 w6 := S12.of X5.out L5.out
               clear z1 hb6)
            | (go_at_call 23
               with_reducible refine (CST.out _).mono ?_
               rintro e w6 ⟨rfl, hb6⟩
               have z1 := HB5.out.size
               replace X5 := Aside0.mk (blk_below X5.out hb6)
               replace L5 := Aside0.mk (blk_below L5.out hb6)
               replace HB5 := Aside0.mk (HB5.out.trans (hb6.mono z1))
               have hS6 : S12 gx gl g l0 l1 l2 l3 w6 := S12.of X5.out L5.out
               clear z1 hb6)
            | (go_at_call 26
               with_reducible refine (CEMP.out _).mono ?_
               rintro e w6 ⟨rfl, hb6⟩
               have z1 := HB5.out.size
               replace X5 := Aside0.mk (blk_below X5.out hb6)
               replace L5 := Aside0.mk (blk_below L5.out hb6)
               replace HB5 := Aside0.mk (HB5.out.trans (hb6.mono z1))
               have hS6 : S12 gx gl g l0 l1 l2 l3 w6 := S12.of X5.out L5.out
               clear z1 hb6))
        all_goals
          go_wp2
          go_ret
          exact ⟨rfl, HB5.out⟩
    · have c0 := blk_cell L6.out 0
      have c1 := blk_cell L6.out 1
      have c2 := blk_cell L6.out 2
      have c3 := blk_cell L6.out 3
      simp only [List.getElem?_toArray, List.getElem?_cons_zero, List.getElem?_cons_succ] at c0 c1 c2 c3
      have hnone := HNONE.out
      go_upto_region 8 with (fail)
      clear hnone c0 c1 c2 c3
      have heq := HEQ.out
      have X5 := Aside0.mk (blk_drew X6.out)
      have L5 := Aside0.mk (blk_drew L6.out)
      have HB5 := Aside0.mk (below_drew HB6.out)
      have hS5 := S12.of X5.out L5.out
      clear X6 L6 HB6
      go_region_held3 (fun W => (W.cell? ⟨gx, 0, none⟩ = some (.int .u16 (g 0)) ∧ W.cell? ⟨gx, 1, none⟩ = some (.int .u16 (g 1)) ∧ W.cell? ⟨gx, 2, none⟩ = some (.int .u16 (g 2)) ∧ W.cell? ⟨gx, 3, none⟩ = some (.int .u16 (g 3)) ∧ W.cell? ⟨gx, 4, none⟩ = some (.int .u16 (g 4)) ∧ W.cell? ⟨gx, 5, none⟩ = some (.int .u16 (g 5)) ∧ W.cell? ⟨gx, 6, none⟩ = some (.int .u16 (g 6)) ∧ W.cell? ⟨gx, 7, none⟩ = some (.int .u16 (g 7))) ∧ (W.cell? ⟨gl, 0, none⟩ = some (.int .u32 l0) ∧ W.cell? ⟨gl, 1, none⟩ = some (.int .u32 l1) ∧ W.cell? ⟨gl, 2, none⟩ = some (.int .u32 l2) ∧ W.cell? ⟨gl, 3, none⟩ = some (.int .u32 l3)))
        (with_reducible assumption)
        (first
          | (go_at_call 25
             with_reducible refine (CQUA.out _).mono ?_
             rintro e w6 ⟨rfl, hb6⟩
             have z1 := HB5.out.size
             replace X5 := Aside0.mk (blk_below X5.out hb6)
             replace L5 := Aside0.mk (blk_below L5.out hb6)
             replace HB5 := Aside0.mk (HB5.out.trans (hb6.mono z1))
             have hS6 : S12 gx gl g l0 l1 l2 l3 w6 := S12.of X5.out L5.out
             clear z1 hb6)
          | (go_at_call 18
             with_reducible refine (COWN.out _).mono ?_
             rintro e w6 ⟨rfl, hb6⟩
             have z1 := HB5.out.size
             replace X5 := Aside0.mk (blk_below X5.out hb6)
             replace L5 := Aside0.mk (blk_below L5.out hb6)
             replace HB5 := Aside0.mk (HB5.out.trans (hb6.mono z1))
             have hS6 : S12 gx gl g l0 l1 l2 l3 w6 := S12.of X5.out L5.out
             clear z1 hb6)
          | (go_at_call 21
             with_reducible refine (CMID.out _).mono ?_
             rintro e w6 ⟨rfl, hb6⟩
             have z1 := HB5.out.size
             replace X5 := Aside0.mk (blk_below X5.out hb6)
             replace L5 := Aside0.mk (blk_below L5.out hb6)
             replace HB5 := Aside0.mk (HB5.out.trans (hb6.mono z1))
             have hS6 : S12 gx gl g l0 l1 l2 l3 w6 := S12.of X5.out L5.out
             clear z1 hb6)
          | (go_at_call 12
             with_reducible refine (CCEL.out _ _ (C_four L5.out)).mono ?_
             rintro e w6 ⟨vS, rfl, hR6, hb6⟩
             have z1 := HB5.out.size
             replace X5 := Aside0.mk (blk_below X5.out hb6)
             replace L5 := Aside0.mk (blk_below L5.out hb6)
             replace HB5 := Aside0.mk (HB5.out.trans (hb6.mono z1))
             have hS6 : S12 gx gl g l0 l1 l2 l3 w6 := S12.of X5.out L5.out
             obtain ⟨AS, cS, eS, hlS, hCS⟩ := Kd.R_reads hR6
             rw [List.length_map] at eS hlS hCS
             subst eS
             have RS := Aside0.mk hCS
             clear hR6 hCS
             clear z1 hb6)
          | (go_at_call 22
             with_reducible refine (CLEA.out _ _ _ RS.out hlS).mono ?_
             rintro e w6 ⟨rfl, hb6⟩
             clear RS hlS
             have z1 := HB5.out.size
             replace X5 := Aside0.mk (blk_below X5.out hb6)
             replace L5 := Aside0.mk (blk_below L5.out hb6)
             replace HB5 := Aside0.mk (HB5.out.trans (hb6.mono z1))
             have hS6 : S12 gx gl g l0 l1 l2 l3 w6 := S12.of X5.out L5.out
             clear z1 hb6)
          | (go_at_call 23
             with_reducible refine (CST.out _).mono ?_
             rintro e w6 ⟨rfl, hb6⟩
             have z1 := HB5.out.size
             replace X5 := Aside0.mk (blk_below X5.out hb6)
             replace L5 := Aside0.mk (blk_below L5.out hb6)
             replace HB5 := Aside0.mk (HB5.out.trans (hb6.mono z1))
             have hS6 : S12 gx gl g l0 l1 l2 l3 w6 := S12.of X5.out L5.out
             clear z1 hb6)
          | (go_at_call 26
             with_reducible refine (CEMP.out _).mono ?_
             rintro e w6 ⟨rfl, hb6⟩
             have z1 := HB5.out.size
             replace X5 := Aside0.mk (blk_below X5.out hb6)
             replace L5 := Aside0.mk (blk_below L5.out hb6)
             replace HB5 := Aside0.mk (HB5.out.trans (hb6.mono z1))
             have hS6 : S12 gx gl g l0 l1 l2 l3 w6 := S12.of X5.out L5.out
             clear z1 hb6))
      all_goals
        go_wp2
        go_ret
        exact ⟨rfl, HB5.out⟩
open Go.ChangeShapes Go.WideShapes Go.ChangeAt
open Go.ChangeMaps (open_string shut_string)
theorem blockParts_lifted (os : Os) (started : os.Started) (H : Type) (enc : TypeId × Value → H) :
    ReturnsInHanded {} Tryd.checked os 5 .any (fun w args => (Rows.blockPartsSpec.pre enc Tryd.prog Tryd.f5 [] false w args ∧ laidMetH Tryd.prog laid1 w) ∧ sizedMet enc Tryd.prog Tryd.f5 (OpenSpec.ofChange Rows.blockPartsSpec) false w args)
      (Rows.blockPartsSpec.post enc Tryd.prog Tryd.f5 false true false false) := by
  refine returnsInHanded_of_change_and (C := Tryd.checked) (X := fun w _ => laidMetH Tryd.prog laid1 w) (fun _ _ _ hh h => h.of_heap hh) ownP started (by kernel_rfl) Tryd.func5
    (ChangeSpec.witness_shaped (enc := enc) (C := Tryd.checked) (os := os) (X := fun w _ => laidMetH Tryd.prog laid1 w) false (World.doorLaid Tryd.prog 27 os) #[.agg #[.int .u32 0, .int .u32 0, .int .u32 0, .int .u32 0], .int .i64 0, .int .i64 0] 8 rfl (World.shaped_of_RefB (by kernel_rfl) (by kernel_rfl)) (by kernel_rfl) (by kernel_rfl) (by kernel_rfl) (door_met os _)) ?_
  intro W base args ds gs before hval0 hW _ _ hL _
  have hval : ∀ (j : Nat) t v, Tryd.f5.params[j]? = some t → args[j]? = some v → Value.okWide Tryd.prog W .any base t v := hval0
  have hW' := hW
  obtain ⟨p, q, hA0, hV, rfl, hfz, hnd⟩ := hW
  have hA : DataW.TrodAll enc Tryd.prog W 0 (fun _ => true) true Tryd.f5.params.toList args.toList ds p := hA0
  rw [Tryd.params5] at hA hval
  obtain ⟨v0, vs0, d0, ds0, p0, q0, hargs, rfl, rfl, h0, r0⟩ := trodAll_cons hA
  obtain ⟨v1, vs1, d1, ds1, p1, q1, rfl, rfl, rfl, h1, r1⟩ := trodAll_cons r0
  obtain ⟨v2, vs2, d2, ds2, p2, q2, rfl, rfl, rfl, h2, r2⟩ := trodAll_cons r1
  obtain ⟨rfl, rfl, rfl⟩ := trodAll_nil r2
  obtain rfl : args = #[v0, v1, v2] := by cases args; simp_all
  obtain ⟨rfl, rfl⟩ := trodVars_none hV
  obtain ⟨l0, a0, b0, c0, rfl, rfl, rfl, wl0, wa0, wb0, wc0⟩ := open_q4 (hval 0 _ v0 rfl rfl) h0
  obtain ⟨a1, rfl, rfl, rfl, w1⟩ := open_int Tryd.underlying3 (hval 1 _ v1 rfl rfl) h1
  obtain ⟨a2, rfl, rfl, rfl, w2⟩ := open_int Tryd.underlying3 (hval 2 _ v2 rfl rfl) h2
  clear hA0 hval0
  refine (blockParts_walk l0 a0 b0 c0 a1 a2 W (six_of_laid hL) (u32_rng wl0).1 (u32_rng wl0).2 (u32_rng wa0).1 (u32_rng wa0).2 (u32_rng wb0).1 (u32_rng wb0).2 (u32_rng wc0).1 (u32_rng wc0).2).mono fun e W' ⟨he, bel⟩ => ?_
  subst he
  exact ⟨_, rfl, _, _, _, [], _, [], hW', trodAll_mk1 (shut_bool Tryd.underlying4 _), (trodAll_cons_mk (shut_q4 wl0 wa0 wb0 wc0) (trodAll_cons_mk (shut_int Tryd.underlying3 w1) (trodAll_cons_mk (shut_int Tryd.underlying3 w2) trodAll_mk0))), rfl, bel.frame _, fun h => by cases h⟩
theorem blockParts_holds : Rows.BlockPartsSaid :=
  OpenClaim.holds_of_wide 5 Tryd.f5 rfl rfl rfl rfl rfl rfl rfl ⟨rfl, rfl, rfl, rfl, rfl⟩ rfl rfl rfl rfl rfl (by kernel_rfl) Tryd.func5 (by kernel_rfl)
    (of_decide_eq_true (by kernel_rfl)) (by unfold Func.isWrapper; first | (rw [if_pos (by decide +kernel)]; kernel_rfl) | (rw [if_neg (by decide +kernel)]; exact ⟨rfl, rfl⟩))
    (fun os started H enc _ => blockParts_lifted os started H enc)
theorem blockParts_card : Rows.BlockPartsCardSaid :=
  Claim7.holds_tied_plain_at .later [] [.data] true (true, "6a075dd8059d4d0e2579a06455ba3964e544451e9c8aadb1883d0044cb9f148a") true
    blockParts_holds (fun _ h => by cases h) (by kernel_rfl) (fun _ h => by cases h) blockParts_row_tie rfl ⟨rfl, rfl⟩ (by kernel_rfl) rfl
    (fun f fn hf hfn => by
      obtain rfl : f = 5 := Option.some.inj ((show Tryd.prog.funcNamed "honeycomb/honeycomblaw10.BlockParts" = some 5 by kernel_rfl).symm.trans hf) |>.symm
      obtain rfl : fn = Tryd.f5 := (Option.some.inj (Tryd.func5.symm.trans hfn)).symm
      refine ⟨by kernel_rfl, fun j t ht => ?_⟩
      have hall : (Tryd.f5.params.toList.all fun t => !Tryd.prog.wantsStandIn t) = true := by kernel_rfl
      have hmem : t ∈ Tryd.f5.params.toList := by
        have := Array.mem_of_getElem? ht
        simpa using this
      have := List.all_eq_true.1 hall t hmem
      exact (by simpa using this : Tryd.prog.wantsStandIn t = false))
    (by kernel_rfl)
#print axioms blockParts_card
end Go.Proofs.YtieekbdododkkaaDoor
