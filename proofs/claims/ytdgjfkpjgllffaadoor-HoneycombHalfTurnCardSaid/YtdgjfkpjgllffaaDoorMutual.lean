/- CellMutual: the plain law and the walk. -/
import Derived.Test.YtdgjfkpjgllffaaDoorEdges
namespace Go.Proofs.YtdgjfkpjgllffaaDoor
open Go.RowKit Go.Proofs.YtdgjfkpjgllffaaDoorW.PrintWords Go.Proofs.YtdgjfkpjgllffaaDoorW.PrintLast Go.Proofs.YtdgjfkpjgllffaaDoorW.PrintMore
open H
open Go.Shelf Go.RowKit Go.Lib Go.Sort

theorem lattice_any (n : Int) (w : World) : Calls Tryd.prog 13 #[.int .i64 n] w fun e w' => (∃ l : Int, e = .returned (.int .i64 l) ∧ 1 ≤ l ∧ l ≤ 3) ∧ w' = w := by
  have h1 : 0 ≤ bits BinOp.and IntKind.i64 n 255 ∧ bits BinOp.and IntKind.i64 n 255 ≤ 255 := by rw [and_255]; omega
  obtain ⟨h1, h2⟩ := h1
  go_enter Tryd.func13, Tryd.ntmps13
  go_wp2
  go_ret
  exact ⟨⟨_, rfl, by omega, by omega⟩, rfl⟩

theorem pw_mem_take {α : Type} (Y : List α) (m : Nat) (h : Y.length ≤ m) : Y.take m = Y := List.take_of_length_le h

/-- those beside those beside a cell -/
theorem mutual_pure (l r : Int) (hl : 1 ≤ l) (hl' : l ≤ 3) (hr : r = 0 ∨ r = 1) (h1 : l = 1 → r = 0) : ∀ y ∈ offs l r, (-1 ≤ y.f0.f0 ∧ y.f0.f0 ≤ 1 ∧ -1 ≤ y.f0.f1 ∧ y.f0.f1 ≤ 1) ∧ (y.f1 = 0 ∨ y.f1 = 1) ∧ (l = 1 → y.f1 = 0) ∧ mk (-y.f0.f0) (-y.f0.f1) r ∈ offs l y.f1 ∧ y ≠ mk 0 0 r := by
  have : l = 1 ∨ l = 2 ∨ l = 3 := by omega
  rcases this with rfl | rfl | rfl
  · obtain rfl := h1 rfl
    decide
  · rcases hr with rfl | rfl <;> decide
  · rcases hr with rfl | rfl <;> decide

theorem mutual_at (l p q r : Int) (hl : 1 ≤ l) (hl' : l ≤ 3) (hr : r = 0 ∨ r = 1) (h1 : l = 1 → r = 0) : ∀ x ∈ (offs l r).map (sh p q), (p - 1 ≤ x.f0.f0 ∧ x.f0.f0 ≤ p + 1 ∧ q - 1 ≤ x.f0.f1 ∧ x.f0.f1 ≤ q + 1) ∧ (x.f1 = 0 ∨ x.f1 = 1) ∧ (l = 1 → x.f1 = 0) ∧ (⟨⟨p, q⟩, r⟩ : CL) ∈ (offs l x.f1).map (sh x.f0.f0 x.f0.f1) ∧ x ≠ ⟨⟨p, q⟩, r⟩ := by
  intro x hx
  obtain ⟨y, hy, rfl⟩ := List.mem_map.1 hx
  obtain ⟨hb, hf, hf1, hm, hn⟩ := mutual_pure l r hl hl' hr h1 y hy
  refine ⟨by simp only [sh]; omega, hf, hf1, List.mem_map.2 ⟨_, hm, ?_⟩, fun he => hn ?_⟩
  · simp only [sh, mk]
    rw [show p + y.f0.f0 + -y.f0.f0 = p by omega, show q + y.f0.f1 + -y.f0.f1 = q by omega]
  · obtain ⟨⟨a, b⟩, c⟩ := y
    simp only [sh, mk, S30.mk.injEq, S28.mk.injEq] at he ⊢
    omega

theorem offs_len (l r : Int) : (offs l r).length ≤ 12 ∧ offs l r ≠ [] := by
  unfold offs
  split
  · simp
  · split <;> split <;> simp

attribute [local go_sem high] eqCells
set_option maxRecDepth 100000 in
set_option maxHeartbeats 4000000 in
theorem mutual_walk (n a b h : Int) (w : World) (hG : Six w) :
    Calls Tryd.prog 3 #[.int .i64 n, .agg #[.int .i64 a, .int .i64 b, .int .i64 h]] w fun e w' => e = .returned (.bool true) ∧ Below w.heap.size w w' := by
  go_enter Tryd.func3, Tryd.ntmps3
  go_wp2_with fail
  obtain ⟨w1, hw1, hcc, hsz, hB1⟩ := one_new w #[.int .i64 a, .int .i64 b, .int .i64 h] 23
  rw [← hw1]
  clear hw1
  have d0 : w1.cell? ⟨w.heap.size, 0, none⟩ = some (.int .i64 a) := hcc 0 _ rfl
  have d1 : w1.cell? ⟨w.heap.size, 1, none⟩ = some (.int .i64 b) := hcc 1 _ rfl
  have d2 : w1.cell? ⟨w.heap.size, 2, none⟩ = some (.int .i64 h) := hcc 2 _ rfl
  have G1 := Aside0.mk (hG.below hB1)
  have HB1 := Aside0.mk hB1
  clear hcc hB1 hG
  go_wp2_with (first
    | (go_at_call 12; refine (awake_any _ G1.out).mono ?_; rintro e w2 ⟨rfl, hb2⟩
       have G2 := Aside0.mk (G1.out.below hb2)
       have d0 := pw_cell_below hb2 d0
       have d1 := pw_cell_below hb2 d1
       have d2 := pw_cell_below hb2 d2
       have HB2 := Aside0.mk hb2
       clear hb2)
    | (go_at_call 13; refine (lattice_any _ _).mono ?_; rintro e w2' ⟨⟨l, rfl, hl, hl'⟩, rfl⟩)
    | (go_at_call 14; refine (some_any _ _ _ _ _ (by omega)).mono ?_; rintro e w3 ⟨⟨p, q, r, rfl, hp1, hp2, hq1, hq2, hr, hl1⟩, hb3⟩
       have G3 := Aside0.mk (G2.out.below hb3)
       have HB3 := Aside0.mk hb3
       clear hb3))
  obtain ⟨w4, hw4, hcc, hsz4, hB4⟩ := one_new w3 #[.int .i64 p, .int .i64 q, .int .i64 r] 30
  rw [← hw4]
  clear hw4 d0 d1 d2
  have c2 : w4.cell? ⟨w3.heap.size, 2, none⟩ = some (.int .i64 r) := hcc 2 _ rfl
  have c0 : w4.cell? ⟨w3.heap.size, 0, none⟩ = some (.int .i64 p) := hcc 0 _ rfl
  have c1 : w4.cell? ⟨w3.heap.size, 1, none⟩ = some (.int .i64 q) := hcc 1 _ rfl
  have G4 := Aside0.mk (G3.out.below hB4)
  have HB4 := Aside0.mk (((HB1.out.trans (HB2.out.mono HB1.out.size)).trans (HB3.out.mono (Nat.le_trans HB1.out.size HB2.out.size))).trans (hB4.mono (Nat.le_trans (Nat.le_trans HB1.out.size HB2.out.size) HB3.out.size)))
  clear hcc hB4 HB1 HB2 HB3 G1 G2 G3
  obtain ⟨X, hX⟩ : ∃ X, X = (offs l r).map (sh p q) := ⟨_, rfl⟩
  have hXn : X.length = (offs l r).length := by rw [hX, List.length_map]
  have hXl : X.length ≤ 12 := by rw [hXn]; exact (offs_len l r).1
  have hma := mutual_at l p q r hl hl' hr hl1
  rw [← hX] at hma
  have MA := Aside0.mk hma
  have hbs := fun W hW => beside_small l p q r W hW hl hl' hr hl1 (by omega) (by omega) (by omega) (by omega)
  rw [← hX, ← hXn] at hbs
  clear hma hX hXn
  refine (hbs w4 G4.out).mono ?_
  rintro e w5 ⟨gx, cx, rfl, hgx, hrx, hb5⟩
  have c0 := pw_cell_below hb5 c0
  have c1 := pw_cell_below hb5 c1
  have c2 := pw_cell_below hb5 c2
  have G5 := Aside0.mk (G4.out.below hb5)
  have hz5 := hb5.size
  have HB5 := Aside0.mk (HB4.out.trans (hb5.mono HB4.out.size))
  have RX := Aside0.mk hrx
  have C5 := Aside0.mk (And.intro c0 (And.intro c1 c2))
  have hzc : w3.heap.size < w5.heap.size := by omega
  clear hrx hb5 hbs c0 c1 c2 HB4 G4
  obtain ⟨c, hc⟩ : ∃ c : CL, c = ⟨⟨p, q⟩, r⟩ := ⟨_, rfl⟩
  have hcp : p = c.f0.f0 := by rw [hc]
  have hcq : q = c.f0.f1 := by rw [hc]
  have hcr : r = c.f1 := by rw [hc]
  rw [← hc] at MA
  clear hc
  subst hcp
  subst hcq
  subst hcr
  go_wp2
  go_loopw [33] (fun i wr => ∃ k : Nat, k ≤ X.length ∧ i = .int .i64 k ∧ Below w5.heap.size w5 wr) (fun i _ => X.length - (intOf i).toNat)
  case atStart => exact ⟨0, by omega, rfl, Below.refl _ _⟩
  case round =>
    obtain ⟨k, hk, rfl, hB⟩ := hrel
    have HB := Aside0.mk hB
    have hzr := hB.size
    have hzz : w3.heap.size < wr.heap.size := Nat.lt_of_lt_of_le hzc hzr
    have hgxr : gx < wr.heap.size := Nat.lt_of_lt_of_le RX.out.lt hzr
    have d0 := pw_cell_below hB C5.out.1
    have d1 := pw_cell_below hB C5.out.2.1
    have d2 := pw_cell_below hB C5.out.2.2
    by_cases hlt : k < X.length
    · obtain ⟨a0, a1, a2⟩ := (RX.out.below hB).cell k (by simpa using hlt)
      have hmem : X.toArray[k]! ∈ X := by
        have : X.toArray[k]! = X[k] := by simp [hlt]
        rw [this]
        exact List.getElem_mem _
      generalize X.toArray[k]! = x at a0 a1 a2 hmem
      obtain ⟨hbx, hfx, hf1x, hmy, hxc⟩ := MA.out x hmem
      have G6 := Aside0.mk (G5.out.below hB)
      clear hB hmem
      go_wp2_with fail
      obtain ⟨w7, hw7, hc7, hsz7, hB7⟩ := one_new wr #[.int .i64 x.f0.f0, .int .i64 x.f0.f1, .int .i64 x.f1] 30
      rw [← hw7]
      have e0 : w7.cell? ⟨wr.heap.size, 0, none⟩ = some (.int .i64 x.f0.f0) := hc7 0 _ rfl
      have e1 : w7.cell? ⟨wr.heap.size, 1, none⟩ = some (.int .i64 x.f0.f1) := hc7 1 _ rfl
      have e2 : w7.cell? ⟨wr.heap.size, 2, none⟩ = some (.int .i64 x.f1) := hc7 2 _ rfl
      have f0 := pw_cell_below hB7 d0
      have f1 := pw_cell_below hB7 d1
      have f2 := pw_cell_below hB7 d2
      have HB7 := Aside0.mk (HB.out.trans (hB7.mono hzr))
      have G7 := G6.out.below hB7
      clear hw7 hc7 hB7 d0 d1 d2 a0 a1 a2
      obtain ⟨Y, hY⟩ : ∃ Y, Y = (offs l x.f1).map (sh x.f0.f0 x.f0.f1) := ⟨_, rfl⟩
      have hYn : Y.length = (offs l x.f1).length := by rw [hY, List.length_map]
      have hYl : Y.length ≤ 12 := by rw [hYn]; exact (offs_len l x.f1).1
      have hbs := beside_small l x.f0.f0 x.f0.f1 x.f1 w7 G7 hl hl' hfx hf1x (by omega) (by omega) (by omega) (by omega)
      rw [← hY, ← hYn] at hbs
      rw [← hY] at hmy
      have MY := Aside0.mk hmy
      clear hY hYn hmy
      refine hbs.mono ?_
      rintro e w8 ⟨gy, cy, rfl, hgy, hry, hb8⟩
      have e0 := pw_cell_below hb8 e0
      have e1 := pw_cell_below hb8 e1
      have e2 := pw_cell_below hb8 e2
      have f0 := pw_cell_below hb8 f0
      have f1 := pw_cell_below hb8 f1
      have f2 := pw_cell_below hb8 f2
      have RY := Aside0.mk hry
      have hz8 := hb8.size
      have HB8 := Aside0.mk (HB7.out.trans (hb8.mono HB7.out.size))
      have E8 := Aside0.mk (And.intro e0 (And.intro e1 (And.intro e2 (And.intro f0 (And.intro f1 f2)))))
      have hgy8 := hry.lt
      have hzx8 : wr.heap.size < w8.heap.size := by omega
      have hzc8 : w3.heap.size < w8.heap.size := by omega
      clear hry hb8 hbs e0 e1 e2 f0 f1 f2
      go_wp2
      go_loopw [13, 45] (fun t j wq => ∃ m : Nat, m ≤ Y.length ∧ j = .int .i64 m ∧ t = .bool (decide (c ∈ Y.take m)) ∧ Below w8.heap.size w8 wq) (fun _ j _ => Y.length - (intOf j).toNat)
      case atStart => exact ⟨0, by omega, rfl, by simp, Below.refl _ _⟩
      case round =>
        obtain ⟨m, hm, rfl, rfl, hB⟩ := hrel
        have HBm := Aside0.mk hB
        have hzm := hB.size
        have e0 := pw_cell_below hB E8.out.1
        have e1 := pw_cell_below hB E8.out.2.1
        have e2 := pw_cell_below hB E8.out.2.2.1
        have f0 := pw_cell_below hB E8.out.2.2.2.1
        have f1 := pw_cell_below hB E8.out.2.2.2.2.1
        have f2 := pw_cell_below hB E8.out.2.2.2.2.2
        have hgym : gy < wr.heap.size := Nat.lt_of_lt_of_le hgy8 hzm
        have hzx := Nat.lt_of_lt_of_le hzx8 hzm
        have hzcr := Nat.lt_of_lt_of_le hzc8 hzm
        by_cases hltm : m < Y.length
        · obtain ⟨b0, b1, b2⟩ := (RY.out.below hB).cell m (by simpa using hltm)
          generalize hy : Y.toArray[m]! = y at b0 b1 b2
          have htk : Y.take (m + 1) = Y.take m ++ [y] := by
            rw [List.take_add_one, List.getElem?_eq_getElem hltm]
            have : Y.toArray[m]! = Y[m] := by simp [hltm]
            rw [← hy, this]
            rfl
          have HTK := Aside0.mk htk
          clear htk hy hB
          by_cases hin : c ∈ Y.take m
          · rw [decide_eq_true hin]
            go_wp2
            go_roundw
            case rel => exact ⟨m + 1, by omega, by go_num, by rw [HTK.out, decide_eq_true (List.mem_append.2 (.inl hin))], below_alloc2 HBm.out (by omega) _⟩
            case measure => simp [intOf]; omega
          · rw [decide_eq_false hin]
            go_wp2
            go_roundw
            case rel =>
              refine ⟨m + 1, by omega, by go_num, ?_, below_alloc2 HBm.out (by omega) _⟩
              rw [HTK.out]
              congr 1
              rw [Bool.eq_iff_iff]
              simp [hin, eq_comm]
            case measure => simp [intOf]; omega
        · obtain rfl : m = Y.length := by omega
          have hin : c ∈ Y.take Y.length := by rw [List.take_length]; exact MY.out
          rw [decide_eq_true hin]
          clear hB
          go_wp2
          go_roundw
          case rel => exact ⟨k + 1, by omega, by go_num, HB8.out.trans (HBm.out.mono HB8.out.size)⟩
          case measure => simp [intOf]; omega
    · obtain rfl : k = X.length := by omega
      clear hB
      go_wp2
      go_ret
      exact ⟨rfl, HB5.out.trans (HB.out.mono HB5.out.size)⟩
end Go.Proofs.YtdgjfkpjgllffaaDoor
