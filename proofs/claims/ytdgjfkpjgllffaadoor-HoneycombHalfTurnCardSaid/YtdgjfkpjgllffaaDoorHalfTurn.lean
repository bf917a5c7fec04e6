/- HoneycombHalfTurn: the plain law and the walk. -/
import Derived.Test.YtdgjfkpjgllffaaDoorOpOn
import Derived.Test.YtdgjfkpjgllffaaDoorShifts
namespace Go.Proofs.YtdgjfkpjgllffaaDoor
open Go.RowKit Go.Proofs.YtdgjfkpjgllffaaDoorW.PrintWords Go.Proofs.YtdgjfkpjgllffaaDoorW.PrintLast Go.Proofs.YtdgjfkpjgllffaaDoorW.PrintMore
open H
open Go.Shelf Go.RowKit Go.Lib Go.Sort

attribute [local go_sem high] eqCells eqPt
set_option maxRecDepth 100000 in
set_option maxHeartbeats 2000000 in
theorem awake02_any (w : World) (hG : Six w) : Calls Tryd.prog 25 #[] w fun e w' => e = .returned (.bool true) ∧ Below w.heap.size w w' := by
  have h1 := fun W => opOn_any 1 1 0 W
  have e1 : opOnR 1 1 0 = .tuple #[.agg #[.int .i64 0, .int .i64 1], .nilIface] := by
    unfold opOnR
    rw [if_pos (by decide), if_pos (by decide), if_pos (by decide)]
    rfl
  rw [e1] at h1
  have G := Aside0.mk hG
  have hix : ∀ w : World, (Instr.index 51 (.agg #[.int .i64 1, .int .i64 0, .int .i64 0, .int .i64 1, .int .i64 (-1), .int .i64 1, .int .i64 (-1), .int .i64 0, .int .i64 0, .int .i64 (-1), .int .i64 1, .int .i64 (-1)]) (.int .i64 0)).run Tryd.prog w = .ok (.agg #[.int .i64 1, .int .i64 0]) w := fun w => by kernel_rfl
  clear hG e1
  go_enter Tryd.func25, Tryd.ntmps25
  go_wp2_with (first
    | (go_at_call 24; refine (h1 _).mono ?_; rintro e w1 ⟨rfl, hb1⟩
       have G1 := Aside0.mk (G.out.below hb1)
       have HB1 := Aside0.mk hb1
       clear hb1)
    | (go_at_call 22; refine (six_any _ (G1.out.below (below_alloc (Below.refl _ _) _))).mono ?_; rintro e w2 ⟨rfl, hb2⟩
       have HB2 := Aside0.mk ((below_alloc HB1.out _).trans (hb2.mono (Nat.le_trans HB1.out.size (by simp))))
       clear hb2; unfold sixVal))
  go_ret
  exact ⟨rfl, HB2.out⟩

theorem onT3 (a b h : Int) (hh : h = 0 ∨ h = 1) : onT 3 a b h = ⟨⟨-a - 1, -b - 1⟩, 1 - h⟩ := by
  have e : (3 % 6 : Int).toNat = 3 := by decide
  unfold onT
  rw [e]
  simp only [thrN, turnP, thr0, S30.mk.injEq, S28.mk.injEq]
  rcases hh with rfl | rfl
  · simp; omega
  · simp; omega
theorem on3_any (l a b h : Int) (w : World) (hl : 2 ≤ l) (hl' : l ≤ 3) (ha : -1000000000 ≤ a) (ha' : a ≤ 1000000000) (hb : -1000000000 ≤ b) (hb' : b ≤ 1000000000) (hh : h = 0 ∨ h = 1) :
    Calls Tryd.prog 17 #[.int .i64 l, .int .i64 3, .agg #[.int .i64 a, .int .i64 b, .int .i64 h]] w fun e w' => e = .returned (.tuple #[.agg #[.int .i64 (-a - 1), .int .i64 (-b - 1), .int .i64 (1 - h)], .nilIface]) ∧ Below w.heap.size w w' := by
  have := onT_any l 3 a b h w hl hl' (by omega) (by omega) ⟨by omega, by omega, by omega, by omega⟩ (by omega) (by omega)
  rw [onT3 a b h hh] at this
  refine this.mono ?_
  rintro e w' ⟨he, hB⟩
  rw [if_pos ⟨by show _ ≤ -a - 1; omega, by show -a - 1 ≤ _; omega, by show _ ≤ -b - 1; omega, by show -b - 1 ≤ _; omega⟩] at he
  exact ⟨he, hB⟩

def htC (x : CL) : CL := ⟨⟨-x.f0.f0 - 1, -x.f0.f1 - 1⟩, 1 - x.f1⟩
theorem half_pure (l p q r : Int) (hl : 2 ≤ l) (hl' : l ≤ 3) (hr : r = 0 ∨ r = 1) (k : Nat) (hk : k < (offs l r).length) :
    ((offs l (1 - r)).map (sh (-p - 1) (-q - 1))).toArray[(offs l r).length - 1 - k]! = htC (((offs l r).map (sh p q)).toArray[k]!) := by
  have hrev : ∀ l' r' : Int, (l' = 2 ∨ l' = 3) → (r' = 0 ∨ r' = 1) → (offs l' (1 - r')).reverse = (offs l' r').map (fun o : CL => ⟨⟨-o.f0.f0, -o.f0.f1⟩, 1 - o.f1⟩) := by
    rintro l' r' (rfl | rfl) (rfl | rfl) <;> decide
  have hv := hrev l r (by omega) hr
  have hlen : (offs l (1 - r)).length = (offs l r).length := by
    have := congrArg List.length hv
    simpa using this
  have hk2 : (offs l r).length - 1 - k < (offs l (1 - r)).length := by omega
  have e1 : ((offs l (1 - r)).map (sh (-p - 1) (-q - 1))).toArray[(offs l r).length - 1 - k]! = sh (-p - 1) (-q - 1) (offs l (1 - r))[(offs l r).length - 1 - k] := by simp [hk2]
  have e2 : ((offs l r).map (sh p q)).toArray[k]! = sh p q (offs l r)[k] := by simp [hk]
  have e3 : (offs l (1 - r))[(offs l r).length - 1 - k] = (⟨⟨-(offs l r)[k].f0.f0, -(offs l r)[k].f0.f1⟩, 1 - (offs l r)[k].f1⟩ : CL) := by
    have h1 : (offs l (1 - r)).reverse[k]? = ((offs l r).map (fun o : CL => ⟨⟨-o.f0.f0, -o.f0.f1⟩, 1 - o.f1⟩))[k]? := by rw [hv]
    rw [List.getElem?_reverse (by omega)] at h1
    have e : (offs l (1 - r)).length - 1 - k = (offs l r).length - 1 - k := by omega
    rw [e, List.getElem?_eq_getElem hk2] at h1
    simp only [List.getElem?_map, List.getElem?_eq_getElem hk, Option.map_some, Option.some.injEq] at h1
    exact h1
  rw [e1, e2, e3]
  generalize (offs l r)[k] = o
  simp only [sh, htC]
  rw [show -p - 1 + -o.f0.f0 = -(p + o.f0.f0) - 1 by omega, show -q - 1 + -o.f0.f1 = -(q + o.f0.f1) - 1 by omega]

set_option maxRecDepth 100000 in
set_option maxHeartbeats 4000000 in
theorem half_walk (a b h : Int) (vx : Bool) (w : World) (hG : Six w) :
    Calls Tryd.prog 8 #[.agg #[.int .i64 a, .int .i64 b, .int .i64 h], .bool vx] w fun e w' => e = .returned (.bool true) ∧ Below w.heap.size w w' := by
  have hu := tmod_range a 1000000 (by omega)
  have hv := tmod_range b 1000000 (by omega)
  obtain ⟨p, hp⟩ : ∃ p, p = a.tmod 1000000 := ⟨_, rfl⟩
  obtain ⟨q, hq⟩ : ∃ q, q = b.tmod 1000000 := ⟨_, rfl⟩
  rw [← hp] at hu
  rw [← hq] at hv
  obtain ⟨hu1, hu2⟩ := hu
  obtain ⟨hv1, hv2⟩ := hv
  have hr : bits BinOp.and IntKind.i64 h 1 = 0 ∨ bits BinOp.and IntKind.i64 h 1 = 1 := by rw [and_1]; omega
  generalize hrd : bits BinOp.and IntKind.i64 h 1 = r at hr
  have G := Aside0.mk hG
  clear hG
  obtain ⟨l, hld⟩ : ∃ l : Int, l = if vx = true then 3 else 2 := ⟨_, rfl⟩
  have hl : 2 ≤ l ∧ l ≤ 3 := by rw [hld]; split <;> omega
  obtain ⟨hl, hl'⟩ := hl
  cases vx
  all_goals
    simp only [Bool.false_eq_true, ↓reduceIte] at hld
    go_enter Tryd.func8, Tryd.ntmps8
    go_wp2_with fail
    rw [← hp, ← hq]
    clear hld hl hl' l
  · obtain ⟨w1, hw1, hcc, hsz, hB1⟩ := one_new w #[.int .i64 p, .int .i64 q, .int .i64 r] 30
    rw [← hw1]
    have c0 : w1.cell? ⟨w.heap.size, 0, none⟩ = some (.int .i64 p) := hcc 0 _ rfl
    have c1 : w1.cell? ⟨w.heap.size, 1, none⟩ = some (.int .i64 q) := hcc 1 _ rfl
    have c2 : w1.cell? ⟨w.heap.size, 2, none⟩ = some (.int .i64 r) := hcc 2 _ rfl
    have G1 := Aside0.mk (G.out.below hB1)
    have HB1 := Aside0.mk hB1
    clear hw1 hcc hB1 hp hq
    have hn : (offs 2 r).length = 3 := by rcases hr with rfl | rfl <;> rfl
    have hn' : (offs 2 (1 - r)).length = 3 := by rcases hr with rfl | rfl <;> rfl
    have hr' : 1 - r = 0 ∨ 1 - r = 1 := by omega
    have hrr : ((1 - r) == r) = false := by rcases hr with rfl | rfl <;> rfl
    have hpu := fun k => half_pure 2 p q r (by omega) (by omega) hr k
    have hbx := fun W hW => beside_small 2 p q r W hW (by omega) (by omega) hr (by omega) (by omega) (by omega) (by omega) (by omega)
    have hby := fun W hW => beside_small 2 (-p - 1) (-q - 1) (1 - r) W hW (by omega) (by omega) hr' (by omega) (by omega) (by omega) (by omega) (by omega)
    have hxb : ∀ x ∈ (offs 2 r).map (sh p q), -1000002 ≤ x.f0.f0 ∧ x.f0.f0 ≤ 1000002 ∧ -1000002 ≤ x.f0.f1 ∧ x.f0.f1 ≤ 1000002 ∧ (x.f1 = 0 ∨ x.f1 = 1) := fun x hx => by
      obtain ⟨y, hy, rfl⟩ := List.mem_map.1 hx
      obtain ⟨⟨b1, b2, b3, b4⟩, b5, _⟩ := mutual_pure 2 r (by omega) (by omega) hr (by omega) y hy
      simp only [sh]
      exact ⟨by omega, by omega, by omega, by omega, b5⟩
    obtain ⟨X, hX⟩ : ∃ X, X = (offs 2 r).map (sh p q) := ⟨_, rfl⟩
    obtain ⟨Y, hY⟩ : ∃ Y, Y = (offs 2 (1 - r)).map (sh (-p - 1) (-q - 1)) := ⟨_, rfl⟩
    have hXl : X.length = 3 := by rw [hX, List.length_map, hn]
    have hYl : Y.length = 3 := by rw [hY, List.length_map, hn']
    simp only [hn, ← hX, ← hY] at hpu hbx hxb
    simp only [hn', ← hY] at hby
    have PU := Aside0.mk hpu
    have XB := Aside0.mk hxb
    clear hX hY hn hn' hpu hxb
    have ho1 := fun W => on3_any 2 p q r W (by omega) (by omega) (by omega) (by omega) (by omega) (by omega) hr
    have ho2 := fun W => on3_any 2 (-p - 1) (-q - 1) (1 - r) W (by omega) (by omega) (by omega) (by omega) (by omega) (by omega) hr'
    simp only [show -(-p - 1) - 1 = p by omega, show -(-q - 1) - 1 = q by omega, show 1 - (1 - r) = r by omega] at ho2
    refine (ho1 w1).mono ?_
    rintro e w2 ⟨rfl, hb2⟩
    have c0 := pw_cell_below hb2 c0
    have c1 := pw_cell_below hb2 c1
    have c2 := pw_cell_below hb2 c2
    have hz2 := hb2.size
    have G2 := Aside0.mk (G1.out.below hb2)
    have HB2 := Aside0.mk (HB1.out.trans (hb2.mono HB1.out.size))
    have hzc2 : w.heap.size < w2.heap.size := by omega
    clear hb2
    go_wp2_with fail
    obtain ⟨w3, hw3, hcc, hsz3, hB3⟩ := one_new w2 #[.int .i64 (-p - 1), .int .i64 (-q - 1), .int .i64 (1 - r)] 30
    rw [← hw3]
    have e0 : w3.cell? ⟨w2.heap.size, 0, none⟩ = some (.int .i64 (-p - 1)) := hcc 0 _ rfl
    have e1 : w3.cell? ⟨w2.heap.size, 1, none⟩ = some (.int .i64 (-q - 1)) := hcc 1 _ rfl
    have e2 : w3.cell? ⟨w2.heap.size, 2, none⟩ = some (.int .i64 (1 - r)) := hcc 2 _ rfl
    have c0 := pw_cell_below hB3 c0
    have c1 := pw_cell_below hB3 c1
    have c2 := pw_cell_below hB3 c2
    have G3 := Aside0.mk (G2.out.below hB3)
    have HB3 := Aside0.mk (HB2.out.trans (hB3.mono HB2.out.size))
    clear hw3 hcc hB3
    refine (ho2 w3).mono ?_
    rintro e w4 ⟨rfl, hb4⟩
    have c0 := pw_cell_below hb4 c0
    have c1 := pw_cell_below hb4 c1
    have c2 := pw_cell_below hb4 c2
    have e0 := pw_cell_below hb4 e0
    have e1 := pw_cell_below hb4 e1
    have e2 := pw_cell_below hb4 e2
    have hz4 := hb4.size
    have G4 := Aside0.mk (G3.out.below hb4)
    have HB4 := Aside0.mk (HB3.out.trans (hb4.mono HB3.out.size))
    have hzc4 : w.heap.size < w4.heap.size := by omega
    have hze4 : w2.heap.size < w4.heap.size := by omega
    clear hb4
    go_wp2_with fail
    obtain ⟨w5, hw5, hcc, hsz5, hB5⟩ := one_new w4 #[.int .i64 p, .int .i64 q, .int .i64 r] 30
    rw [← hw5]
    have f0 : w5.cell? ⟨w4.heap.size, 0, none⟩ = some (.int .i64 p) := hcc 0 _ rfl
    have f1 : w5.cell? ⟨w4.heap.size, 1, none⟩ = some (.int .i64 q) := hcc 1 _ rfl
    have f2 : w5.cell? ⟨w4.heap.size, 2, none⟩ = some (.int .i64 r) := hcc 2 _ rfl
    have c0 := pw_cell_below hB5 c0
    have c1 := pw_cell_below hB5 c1
    have c2 := pw_cell_below hB5 c2
    have e0 := pw_cell_below hB5 e0
    have e1 := pw_cell_below hB5 e1
    have e2 := pw_cell_below hB5 e2
    have G5 := Aside0.mk (G4.out.below hB5)
    have HB5 := Aside0.mk (HB4.out.trans (hB5.mono HB4.out.size))
    clear hw5 hcc hB5
    refine (hbx w5 G5.out).mono ?_
    rintro e w6 ⟨gx, cx, rfl, hgx, hrx, hb6⟩
    have c0 := pw_cell_below hb6 c0
    have c1 := pw_cell_below hb6 c1
    have c2 := pw_cell_below hb6 c2
    have e0 := pw_cell_below hb6 e0
    have e1 := pw_cell_below hb6 e1
    have e2 := pw_cell_below hb6 e2
    have f0 := pw_cell_below hb6 f0
    have f1 := pw_cell_below hb6 f1
    have f2 := pw_cell_below hb6 f2
    have G6 := Aside0.mk (G5.out.below hb6)
    have HB6 := Aside0.mk (HB5.out.trans (hb6.mono HB5.out.size))
    have RX := Aside0.mk hrx
    clear hb6 hrx hbx
    go_wp2_with (first
      | (go_at_call 15; refine (hby _ G6.out).mono ?_; rintro e w7 ⟨gy, cy, rfl, hgy, hry, hb7⟩
         have c0 := pw_cell_below hb7 c0
         have c1 := pw_cell_below hb7 c1
         have c2 := pw_cell_below hb7 c2
         have e0 := pw_cell_below hb7 e0
         have e1 := pw_cell_below hb7 e1
         have e2 := pw_cell_below hb7 e2
         have f0 := pw_cell_below hb7 f0
         have f1 := pw_cell_below hb7 f1
         have f2 := pw_cell_below hb7 f2
         have G7 := Aside0.mk (G6.out.below hb7)
         have HB7 := Aside0.mk (HB6.out.trans (hb7.mono HB6.out.size))
         have RX7 := Aside0.mk (RX.out.below hb7)
         have RY7 := Aside0.mk hry
         clear hb7 hry)
      | (go_at_call 25; refine (awake02_any _ G7.out).mono ?_; rintro e w8 ⟨rfl, hb8⟩
         have c0 := pw_cell_below hb8 c0
         have c1 := pw_cell_below hb8 c1
         have c2 := pw_cell_below hb8 c2
         have e0 := pw_cell_below hb8 e0
         have e1 := pw_cell_below hb8 e1
         have e2 := pw_cell_below hb8 e2
         have f0 := pw_cell_below hb8 f0
         have f1 := pw_cell_below hb8 f1
         have f2 := pw_cell_below hb8 f2
         have HB8 := Aside0.mk (HB7.out.trans (hb8.mono HB7.out.size))
         have RX8 := Aside0.mk (RX7.out.below hb8)
         have RY8 := Aside0.mk (RY7.out.below hb8)
         clear hb8))
    clear c0 c1 c2 e0 e1 e2 f0 f1 f2 hby ho1 ho2
    go_loopw [98] (fun i wr => ∃ k : Nat, k ≤ 3 ∧ i = .int .i64 k ∧ Below w8.heap.size w8 wr) (fun i _ => 3 - (intOf i).toNat)
    case atStart => exact ⟨0, by omega, rfl, Below.refl _ _⟩
    case round =>
      obtain ⟨k, hk, rfl, hB⟩ := hrel
      have HB := Aside0.mk hB
      have hzr := hB.size
      have hgxr : gx < wr.heap.size := Nat.lt_of_lt_of_le RX8.out.lt hzr
      have hgyr : gy < wr.heap.size := Nat.lt_of_lt_of_le RY8.out.lt hzr
      by_cases hlt : k < 3
      · obtain ⟨a0, a1, a2⟩ := (RX8.out.below hB).cell k (by simp; omega)
        obtain ⟨m, hm⟩ : ∃ m, m = 3 - 1 - k := ⟨_, rfl⟩
        have hmM : m < 3 := by omega
        obtain ⟨b0, b1, b2⟩ := (RY8.out.below hB).cell m (by simp; omega)
        have hyx := PU.out k hlt
        rw [← hm] at hyx
        rw [hyx] at b0 b1 b2
        have hmem : X.toArray[k]! ∈ X := by
          have : X.toArray[k]! = X[k] := by simp [hXl, hlt]
          rw [this]
          exact List.getElem_mem _
        generalize X.toArray[k]! = x at a0 a1 a2 b0 b1 b2 hmem
        obtain ⟨x1, x2, x3, x4, x5⟩ := XB.out x hmem
        have hw1 : IntKind.i64.wrap (3 - 1) = 3 - 1 := by rw [IntKind.wrap_i64]; omega
        have hw2 : IntKind.i64.wrap (3 - 1 - (k : Int)) = (m : Int) := by rw [IntKind.wrap_i64]; omega
        have hw3 : IntKind.i64.wrap (2 - (k : Int)) = (m : Int) := by rw [IntKind.wrap_i64]; omega
        have MM := Aside0.mk hm
        simp only [htC] at b0 b1 b2
        have hon := fun W => on3_any 2 x.f0.f0 x.f0.f1 x.f1 W (by omega) (by omega) (by omega) (by omega) (by omega) (by omega) x5
        clear hm hyx hmem hB
        go_wp2_with (first
          | (go_at_call 17; refine (hon _).mono ?_; rintro e w9 ⟨rfl, hb9⟩
             have hb19 := (below_alloc (Below.refl _ wr) _).trans (hb9.mono (by simp))
             have b0 := pw_cell_below hb19 b0
             have b1 := pw_cell_below hb19 b1
             have b2 := pw_cell_below hb19 b2
             have hgy9 : gy < w9.heap.size := Nat.lt_of_lt_of_le hgyr hb19.size
             have HB9 := Aside0.mk (HB.out.trans (hb19.mono hzr))
             have hz9 := Nat.le_trans hzr hb19.size
             clear hb9 hb19))
        go_quiet (fail)
        go_wp2
        go_roundw
        case rel => exact ⟨k + 1, by omega, by go_num, pw_below_drewN (below_alloc2 HB9.out hz9 _) _⟩
        case measure => simp [intOf]; omega
      · obtain rfl : k = 3 := by omega
        clear hB
        go_wp2
        go_ret
        exact ⟨rfl, HB8.out.trans (HB.out.mono HB8.out.size)⟩
  · obtain ⟨w1, hw1, hcc, hsz, hB1⟩ := one_new w #[.int .i64 p, .int .i64 q, .int .i64 r] 30
    rw [← hw1]
    have c0 : w1.cell? ⟨w.heap.size, 0, none⟩ = some (.int .i64 p) := hcc 0 _ rfl
    have c1 : w1.cell? ⟨w.heap.size, 1, none⟩ = some (.int .i64 q) := hcc 1 _ rfl
    have c2 : w1.cell? ⟨w.heap.size, 2, none⟩ = some (.int .i64 r) := hcc 2 _ rfl
    have G1 := Aside0.mk (G.out.below hB1)
    have HB1 := Aside0.mk hB1
    clear hw1 hcc hB1 hp hq
    have hn : (offs 3 r).length = 12 := by rcases hr with rfl | rfl <;> rfl
    have hn' : (offs 3 (1 - r)).length = 12 := by rcases hr with rfl | rfl <;> rfl
    have hr' : 1 - r = 0 ∨ 1 - r = 1 := by omega
    have hrr : ((1 - r) == r) = false := by rcases hr with rfl | rfl <;> rfl
    have hpu := fun k => half_pure 3 p q r (by omega) (by omega) hr k
    have hbx := fun W hW => beside_small 3 p q r W hW (by omega) (by omega) hr (by omega) (by omega) (by omega) (by omega) (by omega)
    have hby := fun W hW => beside_small 3 (-p - 1) (-q - 1) (1 - r) W hW (by omega) (by omega) hr' (by omega) (by omega) (by omega) (by omega) (by omega)
    have hxb : ∀ x ∈ (offs 3 r).map (sh p q), -1000002 ≤ x.f0.f0 ∧ x.f0.f0 ≤ 1000002 ∧ -1000002 ≤ x.f0.f1 ∧ x.f0.f1 ≤ 1000002 ∧ (x.f1 = 0 ∨ x.f1 = 1) := fun x hx => by
      obtain ⟨y, hy, rfl⟩ := List.mem_map.1 hx
      obtain ⟨⟨b1, b2, b3, b4⟩, b5, _⟩ := mutual_pure 3 r (by omega) (by omega) hr (by omega) y hy
      simp only [sh]
      exact ⟨by omega, by omega, by omega, by omega, b5⟩
    obtain ⟨X, hX⟩ : ∃ X, X = (offs 3 r).map (sh p q) := ⟨_, rfl⟩
    obtain ⟨Y, hY⟩ : ∃ Y, Y = (offs 3 (1 - r)).map (sh (-p - 1) (-q - 1)) := ⟨_, rfl⟩
    have hXl : X.length = 12 := by rw [hX, List.length_map, hn]
    have hYl : Y.length = 12 := by rw [hY, List.length_map, hn']
    simp only [hn, ← hX, ← hY] at hpu hbx hxb
    simp only [hn', ← hY] at hby
    have PU := Aside0.mk hpu
    have XB := Aside0.mk hxb
    clear hX hY hn hn' hpu hxb
    have ho1 := fun W => on3_any 3 p q r W (by omega) (by omega) (by omega) (by omega) (by omega) (by omega) hr
    have ho2 := fun W => on3_any 3 (-p - 1) (-q - 1) (1 - r) W (by omega) (by omega) (by omega) (by omega) (by omega) (by omega) hr'
    simp only [show -(-p - 1) - 1 = p by omega, show -(-q - 1) - 1 = q by omega, show 1 - (1 - r) = r by omega] at ho2
    refine (ho1 w1).mono ?_
    rintro e w2 ⟨rfl, hb2⟩
    have c0 := pw_cell_below hb2 c0
    have c1 := pw_cell_below hb2 c1
    have c2 := pw_cell_below hb2 c2
    have hz2 := hb2.size
    have G2 := Aside0.mk (G1.out.below hb2)
    have HB2 := Aside0.mk (HB1.out.trans (hb2.mono HB1.out.size))
    have hzc2 : w.heap.size < w2.heap.size := by omega
    clear hb2
    go_wp2_with fail
    obtain ⟨w3, hw3, hcc, hsz3, hB3⟩ := one_new w2 #[.int .i64 (-p - 1), .int .i64 (-q - 1), .int .i64 (1 - r)] 30
    rw [← hw3]
    have e0 : w3.cell? ⟨w2.heap.size, 0, none⟩ = some (.int .i64 (-p - 1)) := hcc 0 _ rfl
    have e1 : w3.cell? ⟨w2.heap.size, 1, none⟩ = some (.int .i64 (-q - 1)) := hcc 1 _ rfl
    have e2 : w3.cell? ⟨w2.heap.size, 2, none⟩ = some (.int .i64 (1 - r)) := hcc 2 _ rfl
    have c0 := pw_cell_below hB3 c0
    have c1 := pw_cell_below hB3 c1
    have c2 := pw_cell_below hB3 c2
    have G3 := Aside0.mk (G2.out.below hB3)
    have HB3 := Aside0.mk (HB2.out.trans (hB3.mono HB2.out.size))
    clear hw3 hcc hB3
    refine (ho2 w3).mono ?_
    rintro e w4 ⟨rfl, hb4⟩
    have c0 := pw_cell_below hb4 c0
    have c1 := pw_cell_below hb4 c1
    have c2 := pw_cell_below hb4 c2
    have e0 := pw_cell_below hb4 e0
    have e1 := pw_cell_below hb4 e1
    have e2 := pw_cell_below hb4 e2
    have hz4 := hb4.size
    have G4 := Aside0.mk (G3.out.below hb4)
    have HB4 := Aside0.mk (HB3.out.trans (hb4.mono HB3.out.size))
    have hzc4 : w.heap.size < w4.heap.size := by omega
    have hze4 : w2.heap.size < w4.heap.size := by omega
    clear hb4
    go_wp2_with fail
    obtain ⟨w5, hw5, hcc, hsz5, hB5⟩ := one_new w4 #[.int .i64 p, .int .i64 q, .int .i64 r] 30
    rw [← hw5]
    have f0 : w5.cell? ⟨w4.heap.size, 0, none⟩ = some (.int .i64 p) := hcc 0 _ rfl
    have f1 : w5.cell? ⟨w4.heap.size, 1, none⟩ = some (.int .i64 q) := hcc 1 _ rfl
    have f2 : w5.cell? ⟨w4.heap.size, 2, none⟩ = some (.int .i64 r) := hcc 2 _ rfl
    have c0 := pw_cell_below hB5 c0
    have c1 := pw_cell_below hB5 c1
    have c2 := pw_cell_below hB5 c2
    have e0 := pw_cell_below hB5 e0
    have e1 := pw_cell_below hB5 e1
    have e2 := pw_cell_below hB5 e2
    have G5 := Aside0.mk (G4.out.below hB5)
    have HB5 := Aside0.mk (HB4.out.trans (hB5.mono HB4.out.size))
    clear hw5 hcc hB5
    refine (hbx w5 G5.out).mono ?_
    rintro e w6 ⟨gx, cx, rfl, hgx, hrx, hb6⟩
    have c0 := pw_cell_below hb6 c0
    have c1 := pw_cell_below hb6 c1
    have c2 := pw_cell_below hb6 c2
    have e0 := pw_cell_below hb6 e0
    have e1 := pw_cell_below hb6 e1
    have e2 := pw_cell_below hb6 e2
    have f0 := pw_cell_below hb6 f0
    have f1 := pw_cell_below hb6 f1
    have f2 := pw_cell_below hb6 f2
    have G6 := Aside0.mk (G5.out.below hb6)
    have HB6 := Aside0.mk (HB5.out.trans (hb6.mono HB5.out.size))
    have RX := Aside0.mk hrx
    clear hb6 hrx hbx
    go_wp2_with (first
      | (go_at_call 15; refine (hby _ G6.out).mono ?_; rintro e w7 ⟨gy, cy, rfl, hgy, hry, hb7⟩
         have c0 := pw_cell_below hb7 c0
         have c1 := pw_cell_below hb7 c1
         have c2 := pw_cell_below hb7 c2
         have e0 := pw_cell_below hb7 e0
         have e1 := pw_cell_below hb7 e1
         have e2 := pw_cell_below hb7 e2
         have f0 := pw_cell_below hb7 f0
         have f1 := pw_cell_below hb7 f1
         have f2 := pw_cell_below hb7 f2
         have G7 := Aside0.mk (G6.out.below hb7)
         have HB7 := Aside0.mk (HB6.out.trans (hb7.mono HB6.out.size))
         have RX7 := Aside0.mk (RX.out.below hb7)
         have RY7 := Aside0.mk hry
         clear hb7 hry)
      | (go_at_call 25; refine (awake02_any _ G7.out).mono ?_; rintro e w8 ⟨rfl, hb8⟩
         have c0 := pw_cell_below hb8 c0
         have c1 := pw_cell_below hb8 c1
         have c2 := pw_cell_below hb8 c2
         have e0 := pw_cell_below hb8 e0
         have e1 := pw_cell_below hb8 e1
         have e2 := pw_cell_below hb8 e2
         have f0 := pw_cell_below hb8 f0
         have f1 := pw_cell_below hb8 f1
         have f2 := pw_cell_below hb8 f2
         have HB8 := Aside0.mk (HB7.out.trans (hb8.mono HB7.out.size))
         have RX8 := Aside0.mk (RX7.out.below hb8)
         have RY8 := Aside0.mk (RY7.out.below hb8)
         clear hb8))
    clear c0 c1 c2 e0 e1 e2 f0 f1 f2 hby ho1 ho2
    go_loopw [98] (fun i wr => ∃ k : Nat, k ≤ 12 ∧ i = .int .i64 k ∧ Below w8.heap.size w8 wr) (fun i _ => 12 - (intOf i).toNat)
    case atStart => exact ⟨0, by omega, rfl, Below.refl _ _⟩
    case round =>
      obtain ⟨k, hk, rfl, hB⟩ := hrel
      have HB := Aside0.mk hB
      have hzr := hB.size
      have hgxr : gx < wr.heap.size := Nat.lt_of_lt_of_le RX8.out.lt hzr
      have hgyr : gy < wr.heap.size := Nat.lt_of_lt_of_le RY8.out.lt hzr
      by_cases hlt : k < 12
      · obtain ⟨a0, a1, a2⟩ := (RX8.out.below hB).cell k (by simp; omega)
        obtain ⟨m, hm⟩ : ∃ m, m = 12 - 1 - k := ⟨_, rfl⟩
        have hmM : m < 12 := by omega
        obtain ⟨b0, b1, b2⟩ := (RY8.out.below hB).cell m (by simp; omega)
        have hyx := PU.out k hlt
        rw [← hm] at hyx
        rw [hyx] at b0 b1 b2
        have hmem : X.toArray[k]! ∈ X := by
          have : X.toArray[k]! = X[k] := by simp [hXl, hlt]
          rw [this]
          exact List.getElem_mem _
        generalize X.toArray[k]! = x at a0 a1 a2 b0 b1 b2 hmem
        obtain ⟨x1, x2, x3, x4, x5⟩ := XB.out x hmem
        have hw1 : IntKind.i64.wrap (12 - 1) = 12 - 1 := by rw [IntKind.wrap_i64]; omega
        have hw2 : IntKind.i64.wrap (12 - 1 - (k : Int)) = (m : Int) := by rw [IntKind.wrap_i64]; omega
        have hw3 : IntKind.i64.wrap (11 - (k : Int)) = (m : Int) := by rw [IntKind.wrap_i64]; omega
        have MM := Aside0.mk hm
        simp only [htC] at b0 b1 b2
        have hon := fun W => on3_any 3 x.f0.f0 x.f0.f1 x.f1 W (by omega) (by omega) (by omega) (by omega) (by omega) (by omega) x5
        clear hm hyx hmem hB
        go_wp2_with (first
          | (go_at_call 17; refine (hon _).mono ?_; rintro e w9 ⟨rfl, hb9⟩
             have hb19 := (below_alloc (Below.refl _ wr) _).trans (hb9.mono (by simp))
             have b0 := pw_cell_below hb19 b0
             have b1 := pw_cell_below hb19 b1
             have b2 := pw_cell_below hb19 b2
             have hgy9 : gy < w9.heap.size := Nat.lt_of_lt_of_le hgyr hb19.size
             have HB9 := Aside0.mk (HB.out.trans (hb19.mono hzr))
             have hz9 := Nat.le_trans hzr hb19.size
             clear hb9 hb19))
        go_quiet (fail)
        go_wp2
        go_roundw
        case rel => exact ⟨k + 1, by omega, by go_num, pw_below_drewN (below_alloc2 HB9.out hz9 _) _⟩
        case measure => simp [intOf]; omega
      · obtain rfl : k = 12 := by omega
        clear hB
        go_wp2
        go_ret
        exact ⟨rfl, HB8.out.trans (HB.out.mono HB8.out.size)⟩
end Go.Proofs.YtdgjfkpjgllffaaDoor
