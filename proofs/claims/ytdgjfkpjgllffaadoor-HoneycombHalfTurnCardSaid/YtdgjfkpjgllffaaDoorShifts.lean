/- CellShifts: the walk. -/
import Derived.Test.YtdgjfkpjgllffaaDoorMutual
import Derived.Test.YtdgjfkpjgllffaaDoorPlus
namespace Go.Proofs.YtdgjfkpjgllffaaDoor
open Go.RowKit Go.Proofs.YtdgjfkpjgllffaaDoorW.PrintWords Go.Proofs.YtdgjfkpjgllffaaDoorW.PrintLast Go.Proofs.YtdgjfkpjgllffaaDoorW.PrintMore
open H
open Go.Shelf Go.RowKit Go.Lib Go.Sort

/-- four cells that are read, and nothing has turned that was there -/
abbrev S2 (B : Nat) (w0 : World) (g o b : Nat) (x y s t : Int) (W : World) : Prop :=
  W.cell? ⟨g, o, none⟩ = some (.int .i64 x) ∧ W.cell? ⟨g, o + 1, none⟩ = some (.int .i64 y) ∧ W.cell? ⟨b, 0, none⟩ = some (.int .i64 s) ∧ W.cell? ⟨b, 1, none⟩ = some (.int .i64 t) ∧ Below B w0 W ∧ B ≤ W.heap.size
theorem S2.below {B : Nat} {w0 : World} {g o b : Nat} {x y s t : Int} {W w1 : World} (h : S2 B w0 g o b x y s t W) (hb : Below W.heap.size W w1) : S2 B w0 g o b x y s t w1 := by
  obtain ⟨h0, h1, h2, h3, h4, h5⟩ := h
  exact ⟨pw_cell_below hb h0, pw_cell_below hb h1, pw_cell_below hb h2, pw_cell_below hb h3, h4.trans (hb.mono h5), Nat.le_trans h5 hb.size⟩

theorem S2.set {B : Nat} {w0 : World} {g o b : Nat} {x y s t : Int} {W : World} (h : S2 B w0 g o b x y s t W) (hg : g < B) (hb : b < B) (hw : B = w0.heap.size) (c j : Nat) (hc : B ≤ c) (v : Value) : S2 B w0 g o b x y s t (W.setCell ⟨c, j, none⟩ v) := by
  obtain ⟨h0, h1, h2, h3, h4, h5⟩ := h
  have k : ∀ i, i < B → (W.setCell ⟨c, j, none⟩ v).heap[i]? = W.heap[i]? := fun i hi => Below.heap_setCell W ⟨c, j, none⟩ v i (by show i ≠ c; omega)
  exact ⟨(World.cell?_of_block (a := ⟨g, o, none⟩) (k g hg)).trans h0, (World.cell?_of_block (a := ⟨g, o + 1, none⟩) (k g hg)).trans h1, (World.cell?_of_block (a := ⟨b, 0, none⟩) (k b hb)).trans h2, (World.cell?_of_block (a := ⟨b, 1, none⟩) (k b hb)).trans h3, h4.setCell (p := ⟨c, j, none⟩) hc v, by simpa using h5⟩

theorem set_same {w : World} {a : Addr} {u v : Value} (h : w.cell? a = some u) : (w.setCell a v).cell? a = some v := by
  apply World.cell?_setCell_same
  exact h
theorem set_other {w : World} {a b : Addr} {v : Value} (h : a ≠ b) : (w.setCell a v).cell? b = w.cell? b := by
  apply World.cell?_setCell_other
  exact h

attribute [local go_sem high] eqCells eqPt
set_option maxRecDepth 100000 in
set_option maxHeartbeats 4000000 in
theorem shifts_walk (n a b h u v : Int) (w : World) (hG : Six w) :
    Calls Tryd.prog 5 #[.int .i64 n, .agg #[.int .i64 a, .int .i64 b, .int .i64 h], .int .i64 u, .int .i64 v] w fun e w' => e = .returned (.bool true) ∧ Below w.heap.size w w' := by
  have hu := tmod_range u 1000000 (by omega)
  have hv := tmod_range v 1000000 (by omega)
  obtain ⟨s, hs⟩ : ∃ s, s = u.tmod 1000000 := ⟨_, rfl⟩
  obtain ⟨t, ht⟩ : ∃ t, t = v.tmod 1000000 := ⟨_, rfl⟩
  rw [← hs] at hu
  rw [← ht] at hv
  obtain ⟨hu1, hu2⟩ := hu
  obtain ⟨hv1, hv2⟩ := hv
  go_enter Tryd.func5, Tryd.ntmps5
  go_wp2_with fail
  obtain ⟨w1, hw1, hcc, hsz, hB1⟩ := one_new w #[.int .i64 a, .int .i64 b, .int .i64 h] 23
  rw [← hw1]
  clear hw1
  have d0 : w1.cell? ⟨w.heap.size, 0, none⟩ = some (.int .i64 a) := hcc 0 _ rfl
  have d1 : w1.cell? ⟨w.heap.size, 1, none⟩ = some (.int .i64 b) := hcc 1 _ rfl
  have d2 : w1.cell? ⟨w.heap.size, 2, none⟩ = some (.int .i64 h) := hcc 2 _ rfl
  have G1 := Aside0.mk (hG.below hB1)
  have HB1 := Aside0.mk hB1
  clear hcc hB1 hG
  go_wp2_with (first
    | (go_at_call 12; refine (awake_any _ G1.out).mono ?_; rintro e w2 ⟨rfl, hb2⟩
       have G2 := Aside0.mk (G1.out.below hb2)
       have d0 := pw_cell_below hb2 d0
       have d1 := pw_cell_below hb2 d1
       have d2 := pw_cell_below hb2 d2
       have HB2 := Aside0.mk hb2
       clear hb2)
    | (go_at_call 13; refine (lattice_any _ _).mono ?_; rintro e w2' ⟨⟨l, rfl, hl, hl'⟩, rfl⟩)
    | (go_at_call 14; refine (some_any _ _ _ _ _ (by omega)).mono ?_; rintro e w3 ⟨⟨p, q, r, rfl, hp1, hp2, hq1, hq2, hr, hl1⟩, hb3⟩
       have G3 := Aside0.mk (G2.out.below hb3)
       have HB3 := Aside0.mk hb3
       clear hb3))
  rw [← hs, ← ht]
  obtain ⟨w4, hw4, hcc, hff, hsz4, hB4⟩ := two_new w3 #[.int .i64 p, .int .i64 q, .int .i64 r] #[.int .i64 s, .int .i64 t] 30 28
  rw [← hw4]
  clear hw4 d0 d1 d2 hs ht
  have c0 : w4.cell? ⟨w3.heap.size, 0, none⟩ = some (.int .i64 p) := hcc 0 _ rfl
  have c1 : w4.cell? ⟨w3.heap.size, 1, none⟩ = some (.int .i64 q) := hcc 1 _ rfl
  have c2 : w4.cell? ⟨w3.heap.size, 2, none⟩ = some (.int .i64 r) := hcc 2 _ rfl
  have f0 : w4.cell? ⟨w3.heap.size + 1, 0, none⟩ = some (.int .i64 s) := hff 0 _ rfl
  have f1 : w4.cell? ⟨w3.heap.size + 1, 1, none⟩ = some (.int .i64 t) := hff 1 _ rfl
  have G4 := Aside0.mk (G3.out.below hB4)
  have HB4 := Aside0.mk (((HB1.out.trans (HB2.out.mono HB1.out.size)).trans (HB3.out.mono (Nat.le_trans HB1.out.size HB2.out.size))).trans (hB4.mono (Nat.le_trans (Nat.le_trans HB1.out.size HB2.out.size) HB3.out.size)))
  clear hcc hff hB4 HB1 HB2 HB3 G1 G2 G3
  refine (plus_any p q s t w4 ⟨by omega, by omega, by omega, by omega⟩ ⟨by omega, by omega, by omega, by omega⟩ ⟨by omega, by omega, by omega, by omega⟩).mono ?_
  rintro e w5 ⟨rfl, hb5⟩
  have c0 := pw_cell_below hb5 c0
  have c1 := pw_cell_below hb5 c1
  have c2 := pw_cell_below hb5 c2
  have f0 := pw_cell_below hb5 f0
  have f1 := pw_cell_below hb5 f1
  have hz5 := hb5.size
  have G5 := Aside0.mk (G4.out.below hb5)
  have HB5 := Aside0.mk (HB4.out.trans (hb5.mono HB4.out.size))
  have hzc5 : w3.heap.size < w5.heap.size := by omega
  have hzb5 : w3.heap.size + 1 < w5.heap.size := by omega
  clear hb5
  go_wp2_with fail
  obtain ⟨w6, hw6, hcc, hsz6, hB6⟩ := one_new w5 #[.int .i64 (p + s), .int .i64 (q + t)] 28
  rw [← hw6]
  have g0 : w6.cell? ⟨w5.heap.size, 0, none⟩ = some (.int .i64 (p + s)) := hcc 0 _ rfl
  have g1 : w6.cell? ⟨w5.heap.size, 1, none⟩ = some (.int .i64 (q + t)) := hcc 1 _ rfl
  have c0 := pw_cell_below hB6 c0
  have c1 := pw_cell_below hB6 c1
  have c2 := pw_cell_below hB6 c2
  have f0 := pw_cell_below hB6 f0
  have f1 := pw_cell_below hB6 f1
  have G6 := Aside0.mk (G5.out.below hB6)
  have HB6 := Aside0.mk (HB5.out.trans (hB6.mono HB5.out.size))
  clear hw6 hcc hB6
  obtain ⟨X, hX⟩ : ∃ X, X = (offs l r).map (sh p q) := ⟨_, rfl⟩
  obtain ⟨Y, hY⟩ : ∃ Y, Y = (offs l r).map (sh (p + s) (q + t)) := ⟨_, rfl⟩
  have hXn : X.length = (offs l r).length := by rw [hX, List.length_map]
  have hYn : (offs l r).length = Y.length := by rw [hY, List.length_map]
  have hXl : X.length ≤ 12 := by rw [hXn]; exact (offs_len l r).1
  have hXY : X.length = Y.length := by omega
  have hrel : ∀ k, k < X.length → (p - 1 ≤ X.toArray[k]!.f0.f0 ∧ X.toArray[k]!.f0.f0 ≤ p + 1 ∧ q - 1 ≤ X.toArray[k]!.f0.f1 ∧ X.toArray[k]!.f0.f1 ≤ q + 1) ∧ Y.toArray[k]! = sh s t X.toArray[k]! := by
    intro k hk
    have hk' : k < (offs l r).length := by omega
    have e1 : X.toArray[k]! = sh p q (offs l r)[k] := by simp [hX, hk']
    have e2 : Y.toArray[k]! = sh (p + s) (q + t) (offs l r)[k] := by simp [hY, hk']
    obtain ⟨⟨b1, b2, b3, b4⟩, _⟩ := mutual_pure l r hl hl' hr hl1 _ (List.getElem_mem hk')
    rw [e1, e2]
    generalize (offs l r)[k] = o at b1 b2 b3 b4
    refine ⟨by simp only [sh]; omega, ?_⟩
    simp only [sh]
    rw [show p + s + o.f0.f0 = s + (p + o.f0.f0) by omega, show q + t + o.f0.f1 = t + (q + o.f0.f1) by omega]
  have REL := Aside0.mk hrel
  have hbx := fun W hW => beside_small l p q r W hW hl hl' hr hl1 (by omega) (by omega) (by omega) (by omega)
  have hby := fun W hW => beside_small l (p + s) (q + t) r W hW hl hl' hr hl1 (by omega) (by omega) (by omega) (by omega)
  rw [← hX, hYn] at hbx
  rw [← hY, hYn] at hby
  clear hX hY hXn hYn hrel
  refine (hbx w6 G6.out).mono ?_
  rintro e w7 ⟨gx, cx, rfl, hgx, hrx, hb7⟩
  have c0 := pw_cell_below hb7 c0
  have c1 := pw_cell_below hb7 c1
  have c2 := pw_cell_below hb7 c2
  have f0 := pw_cell_below hb7 f0
  have f1 := pw_cell_below hb7 f1
  have g0 := pw_cell_below hb7 g0
  have g1 := pw_cell_below hb7 g1
  have hz7 := hb7.size
  have G7 := Aside0.mk (G6.out.below hb7)
  have HB7 := Aside0.mk (HB6.out.trans (hb7.mono HB6.out.size))
  have RX := Aside0.mk hrx
  clear hb7 hrx hbx
  go_wp2_with (first
    | (go_at_call 15; refine (hby _ G7.out).mono ?_; rintro e w8 ⟨gy, cy, rfl, hgy, hry, hb8⟩
       have f0 := pw_cell_below hb8 f0
       have f1 := pw_cell_below hb8 f1
       have HB8 := Aside0.mk (HB7.out.trans (hb8.mono HB7.out.size))
       have RX8 := Aside0.mk (RX.out.below hb8)
       have RY := Aside0.mk hry
       have hz8 := hb8.size
       clear hry hb8))
  have F8 := Aside0.mk (And.intro f0 f1)
  have hzb8 : w3.heap.size + 1 < w8.heap.size := by omega
  clear f0 f1 c0 c1 c2 g0 g1 hby
  go_loopw [74] (fun i wr => ∃ k : Nat, k ≤ Y.length ∧ i = .int .i64 k ∧ Below w8.heap.size w8 wr) (fun i _ => Y.length - (intOf i).toNat)
  case atStart => exact ⟨0, by omega, rfl, Below.refl _ _⟩
  case round =>
    obtain ⟨k, hk, rfl, hB⟩ := hrel
    have HB := Aside0.mk hB
    have hzr := hB.size
    have hgxr : gx < wr.heap.size := Nat.lt_of_lt_of_le RX8.out.lt hzr
    have hgyr : gy < wr.heap.size := Nat.lt_of_lt_of_le RY.out.lt hzr
    have hzbr : w3.heap.size + 1 < wr.heap.size := Nat.lt_of_lt_of_le hzb8 hzr
    have f0 := pw_cell_below hB F8.out.1
    have f1 := pw_cell_below hB F8.out.2
    by_cases hlt : k < Y.length
    · obtain ⟨hbd, hyx⟩ := REL.out k (by omega)
      obtain ⟨a0, a1, a2⟩ := (RX8.out.below hB).cell k (by simp; omega)
      obtain ⟨b0, b1, b2⟩ := (RY.out.below hB).cell k (by simpa using hlt)
      rw [hyx] at b0 b1 b2
      generalize X.toArray[k]! = x at a0 a1 a2 b0 b1 b2 hbd
      simp only [sh] at b0 b1 b2
      rw [Int.add_comm s] at b0
      rw [Int.add_comm t] at b1
      clear hB hyx
      go_wp2_with fail
      have hSd : S2 wr.heap.size wr gx (k * 3) (w3.heap.size + 1) x.f0.f0 x.f0.f1 s t wr.drew := ⟨a0, a1, f0, f1, below_drew (Below.refl _ _), Nat.le_refl _⟩
      have hpl := fun W => plus_any x.f0.f0 x.f0.f1 s t W ⟨by omega, by omega, by omega, by omega⟩ ⟨by omega, by omega, by omega, by omega⟩ ⟨by omega, by omega, by omega, by omega⟩
      go_region_held3 (fun W => W.cell? ⟨gx, k * 3, none⟩ = some (.int .i64 x.f0.f0) ∧ W.cell? ⟨gx, k * 3 + 1, none⟩ = some (.int .i64 x.f0.f1) ∧ W.cell? ⟨w3.heap.size + 1, 0, none⟩ = some (.int .i64 s) ∧ W.cell? ⟨w3.heap.size + 1, 1, none⟩ = some (.int .i64 t) ∧ Below wr.heap.size wr W ∧ wr.heap.size ≤ W.heap.size)
        (first | assumption | exact S2.below (by assumption) (below_alloc (Below.refl _ _) _) | exact S2.set (S2.set (by assumption) hgxr hzbr rfl _ 0 (by simp; try omega) _) hgxr hzbr rfl _ 1 (by simp; try omega) _)
        (first
          | (go_at_call 16; refine (hpl _).mono ?_; rintro e w9 ⟨rfl, hb9⟩; have hS9 := S2.below (by assumption) hb9; have hcl := fun (p : Addr) hp => hb9.cell (p := p) hp; have hfl := fun (p : Addr) hp => World.frozen?_of_block (a := p) (hb9.block p.block hp); have hzl := hb9.size; have HB9 := Aside0.mk hb9; clear hb9))
      · obtain ⟨W, hW⟩ : ∃ W, W = w9.alloc (.cells #[.int .i64 (x.f0.f0 + s), .int .i64 (x.f0.f1 + t)] 28) := ⟨_, rfl⟩
        have n0 : W.cell? ⟨w9.heap.size, 0, none⟩ = some (.int .i64 (x.f0.f0 + s)) := by rw [hW]; simp
        have n1 : W.cell? ⟨w9.heap.size, 1, none⟩ = some (.int .i64 (x.f0.f1 + t)) := by rw [hW]; simp
        have hbW : Below wr.heap.size wr W := by
          rw [hW]
          exact below_alloc2 ((below_drew (Below.refl _ wr)).trans HB9.out) (by simpa using hzl) _
        have m0 := pw_cell_below hbW b0
        have m1 := pw_cell_below hbW b1
        have m2 := pw_cell_below hbW b2
        have o2 := pw_cell_below hbW a2
        rw [← hW]
        generalize w9.heap.size = bn at n0 n1 ⊢
        have HBW := Aside0.mk (HB.out.trans (hbW.mono hzr))
        clear hW hcl hfl HB9 hbW
        go_wp2
        go_quiet (fail)
        go_wp2
        go_roundw
        case rel => exact ⟨k + 1, by omega, by go_num, pw_below_drewN HBW.out _⟩
        case measure => simp [intOf]; omega
      · obtain ⟨W, hW⟩ : ∃ W, W = (w9.setCell ⟨wr.heap.size, 0, none⟩ (.int .i64 (x.f0.f0 + s))).setCell ⟨wr.heap.size, 1, none⟩ (.int .i64 (x.f0.f1 + t)) := ⟨_, rfl⟩
        have n0 : W.cell? ⟨wr.heap.size, 0, none⟩ = some (.int .i64 (x.f0.f0 + s)) := by
          rw [hW, set_other (by simp)]
          exact set_same ((hcl ⟨wr.heap.size, 0, none⟩ (by simp)).trans (by simp : _ = some (.int .i64 0)))
        have n1 : W.cell? ⟨wr.heap.size, 1, none⟩ = some (.int .i64 (x.f0.f1 + t)) := by
          rw [hW]
          refine set_same (u := .int .i64 0) ?_
          rw [set_other (by simp)]
          exact (hcl ⟨wr.heap.size, 1, none⟩ (by simp)).trans (by simp)
        have hbW : Below wr.heap.size wr W := by
          rw [hW]
          refine Below.setCell (p := ⟨wr.heap.size, 1, none⟩) (Below.setCell (p := ⟨wr.heap.size, 0, none⟩) ?_ (Nat.le_refl _) _) (Nat.le_refl _) _
          exact (below_alloc (below_drew (Below.refl _ wr)) _).trans (HB9.out.mono (by simp))
        have m0 := pw_cell_below hbW b0
        have m1 := pw_cell_below hbW b1
        have m2 := pw_cell_below hbW b2
        have o2 := pw_cell_below hbW a2
        rw [← hW]
        have HBW := Aside0.mk (HB.out.trans (hbW.mono hzr))
        clear hW hcl hfl HB9 hbW
        go_wp2
        go_quiet (fail)
        go_wp2
        go_roundw
        case rel => exact ⟨k + 1, by omega, by go_num, pw_below_drewN HBW.out _⟩
        case measure => simp [intOf]; omega
    · obtain rfl : k = Y.length := by omega
      clear hB
      go_wp2
      go_ret
      exact ⟨rfl, HB8.out.trans (HB.out.mono HB8.out.size)⟩
end Go.Proofs.YtdgjfkpjgllffaaDoor
