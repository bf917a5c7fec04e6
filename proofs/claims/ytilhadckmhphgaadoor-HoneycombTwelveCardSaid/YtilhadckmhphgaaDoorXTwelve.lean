/- HoneycombTwelve: the walk. -/
import Derived.Test.YtilhadckmhphgaaDoorPtKey
import Derived.Test.YtilhadckmhphgaaDoorXOpOn
import Derived.Test.YtilhadckmhphgaaDoorXSix
import Derived.Test.YtilhadckmhphgaaDoorHhoneycombtoplinear
import Derived.Test.YtilhadckmhphgaaDoorHEq
import Derived.Carry
import Derived.BigRegion
import Derived.Deep.RegionHeld3
namespace Go.Proofs.YtilhadckmhphgaaDoor
open Go.RowKit Go.Proofs.YtilhadckmhphgaaDoorW.PrintWords Go.Proofs.YtilhadckmhphgaaDoorW.PrintLast Go.Proofs.YtilhadckmhphgaaDoorW.PrintMore
open H
open Go.RowKit
set_option linter.unusedSimpArgs false

attribute [local go_sem high] eqA29
set_option maxRecDepth 100000 in
set_option maxHeartbeats 2000000 in
theorem awake02_any (w : World) (hG : Six w) : Calls Tryd.prog 17 #[] w fun e w' => e = .returned (.bool true) ∧ Below w.heap.size w w' := by
  have h1 := fun W => opOn_any 1 1 0 W
  have e1 : opOnR 1 1 0 = .tuple #[.agg #[.int .i64 0, .int .i64 1], .nilIface] := by
    unfold opOnR
    rw [if_pos (by decide), if_pos (by decide), if_pos (by decide)]
    rfl
  rw [e1] at h1
  have G := Aside0.mk hG
  have hix : ∀ w : World, (Instr.index 46 (.agg #[.int .i64 1, .int .i64 0, .int .i64 0, .int .i64 1, .int .i64 (-1), .int .i64 1, .int .i64 (-1), .int .i64 0, .int .i64 0, .int .i64 (-1), .int .i64 1, .int .i64 (-1)]) (.int .i64 0)).run Tryd.prog w = .ok (.agg #[.int .i64 1, .int .i64 0]) w := fun w => by kernel_rfl
  clear hG e1
  go_enter Tryd.func17, Tryd.ntmps17
  go_wp2_with fail
  refine (h1 _).mono ?_
  rintro e w1 ⟨rfl, hb1⟩
  have G1 := Aside0.mk (G.out.below hb1)
  have HB1 := Aside0.mk hb1
  clear hb1
  go_wp2_with fail
  obtain ⟨w2, hw2, hcc, hsz2, hB2⟩ := one_new w1 #[.int .i64 0, .int .i64 1] 29
  rw [← hw2]
  have G2 := Aside0.mk (G1.out.below hB2)
  have HB2 := Aside0.mk (HB1.out.trans (hB2.mono HB1.out.size))
  clear hw2 hcc hB2
  refine (six_any _ G2.out).mono ?_
  rintro e w3 ⟨rfl, hb3⟩
  have HB3 := Aside0.mk (HB2.out.trans (hb3.mono HB2.out.size))
  clear hb3
  unfold sixVal
  go_wp2
  go_ret
  exact ⟨rfl, HB3.out⟩

/-- the six, by number -/
def sxA : Nat → Int
  | 0 => 1 | 1 => 0 | 2 => -1 | 3 => -1 | 4 => 0 | _ => 1
def sxB : Nat → Int
  | 0 => 0 | 1 => 1 | 2 => 1 | 3 => 0 | 4 => -1 | _ => -1
theorem sx_bd (k : Nat) : -1 ≤ sxA k ∧ sxA k ≤ 1 ∧ -1 ≤ sxB k ∧ sxB k ≤ 1 := by
  unfold sxA sxB
  split <;> simp
abbrev sxV : Array Value := #[.int .i64 1, .int .i64 0, .int .i64 0, .int .i64 1, .int .i64 (-1), .int .i64 1, .int .i64 (-1), .int .i64 0, .int .i64 0, .int .i64 (-1), .int .i64 1, .int .i64 (-1)]
theorem sx_index (k : Nat) (hk : k < 6) : ∀ (w : World), (Instr.index 46 (.agg #[.int .i64 1, .int .i64 0, .int .i64 0, .int .i64 1, .int .i64 (-1), .int .i64 1, .int .i64 (-1), .int .i64 0, .int .i64 0, .int .i64 (-1), .int .i64 1, .int .i64 (-1)]) (.int .i64 k)).run Tryd.prog w = .ok (.agg #[.int .i64 (sxA k), .int .i64 (sxB k)]) w := by
  have : k = 0 ∨ k = 1 ∨ k = 2 ∨ k = 3 ∨ k = 4 ∨ k = 5 := by omega
  rcases this with rfl | rfl | rfl | rfl | rfl | rfl <;> exact fun w => by kernel_rfl
theorem sx_addr (k : Nat) (hk : k < 6) : ∀ (g : Nat) (w : World), (Instr.indexAt 46 (.pointer (some ⟨g, 0, none⟩)) (.int .i64 k)).run Tryd.prog w = .ok (.pointer (some ⟨g, 2 * k, none⟩)) w := by
  have : k = 0 ∨ k = 1 ∨ k = 2 ∨ k = 3 ∨ k = 4 ∨ k = 5 := by omega
  rcases this with rfl | rfl | rfl | rfl | rfl | rfl <;> exact fun g w => by kernel_rfl
theorem sx_cell (k : Nat) (hk : k < 6) : sxV[2 * k]? = some (.int .i64 (sxA k)) ∧ sxV[2 * k + 1]? = some (.int .i64 (sxB k)) := by
  have : k = 0 ∨ k = 1 ∨ k = 2 ∨ k = 3 ∨ k = 4 ∨ k = 5 := by omega
  rcases this with rfl | rfl | rfl | rfl | rfl | rfl <;> exact ⟨rfl, rfl⟩

/-- counts -/
def encP (p : (Int × Int) × Int) : Value × Value := (.agg #[.int .i64 p.1.1, .int .i64 p.1.2], .int .i64 p.2)
def cntP (L : List ((Int × Int) × Int)) (q : Int × Int) : Int := match L.findIdx? (fun p => p.1 == q) with | some j => (L[j]?.map (·.2)).getD 0 | none => 0
def putP (L : List ((Int × Int) × Int)) (q : Int × Int) (x : Int) : List ((Int × Int) × Int) := match L.findIdx? (fun p => p.1 == q) with | some j => L.set j (q, x) | none => L ++ [(q, x)]
theorem enc_ne {p q : Int × Int} (h : p ≠ q) : (Value.agg #[.int .i64 p.1, .int .i64 p.2]) ≠ (Value.agg #[.int .i64 q.1, .int .i64 q.2]) := by
  intro e
  simp at e
  exact h (Prod.ext e.1 e.2)
theorem bump_P (L : List ((Int × Int) × Int)) (q : Int × Int) :
    (∃ j, (L.map encP)[j]? = some (.agg #[.int .i64 q.1, .int .i64 q.2], .int .i64 (cntP L q)) ∧ (fun x => (L.map encP).set j (.agg #[.int .i64 q.1, .int .i64 q.2], x)) = (fun x => (L.map encP).set j (.agg #[.int .i64 q.1, .int .i64 q.2], x)) ∧ ∀ n, (L.map encP).set j (.agg #[.int .i64 q.1, .int .i64 q.2], .int .i64 n) = (putP L q n).map encP) ∨
    ((∀ p ∈ L.map encP, p.1 ≠ .agg #[.int .i64 q.1, .int .i64 q.2]) ∧ cntP L q = 0 ∧ ∀ n, L.map encP ++ [(.agg #[.int .i64 q.1, .int .i64 q.2], .int .i64 n)] = (putP L q n).map encP) := by
  cases hf : L.findIdx? (fun p => p.1 == q) with
  | some j =>
    refine .inl ⟨j, ?_, rfl, fun n => ?_⟩
    · obtain ⟨hj, hp, _⟩ := List.findIdx?_eq_some_iff_getElem.1 hf
      have hq : L[j].1 = q := by simpa using hp
      rw [List.getElem?_map, List.getElem?_eq_getElem hj]
      simp only [cntP, hf, List.getElem?_eq_getElem hj, Option.map_some, Option.getD_some, encP, hq]
    · simp [putP, hf, List.map_set, encP]
  | none =>
    refine .inr ⟨fun p hp => ?_, by simp [cntP, hf], fun n => by simp [putP, hf, encP]⟩
    obtain ⟨x, hx, rfl⟩ := List.mem_map.1 hp
    have hne := List.findIdx?_eq_none_iff.1 hf x hx
    exact enc_ne (by simpa using hne)

theorem zeroI (w : World) : (zeroValue 3).run Tryd.prog w = .ok (.int .i64 0) w := by kernel_rfl
def linP (k i j : Nat) : Int × Int := (sxA k * sxA i + sxB k * sxA j, sxA k * sxB i + sxB k * sxB j)
def cntL (i j : Nat) : Nat → List ((Int × Int) × Int)
  | 0 => []
  | k + 1 => putP (cntL i j k) (linP k i j) (cntP (cntL i j k) (linP k i j) + 1)
def keepsN (i j : Nat) : Nat → Bool
  | 0 => (((cntL i j 6).length : Int) == 6)
  | k + 1 => keepsN i j k && (cntP (cntL i j 6) (sxA k, sxB k) == 1)
def foundN (i j : Nat) : Nat → Int
  | 0 => 0
  | o + 1 => if onP o 1 0 = (sxA i, sxB i) ∧ onP o 0 1 = (sxA j, sxB j) then foundN i j o + 1 else foundN i j o
theorem twelve_plain : ∀ i j : Fin 6, ((foundN i.1 j.1 12 == 1) == keepsN i.1 j.1 6) = true ∧ ((foundN i.1 j.1 12 == 0) == !keepsN i.1 j.1 6) = true := by decide +kernel

theorem lin_f : ∀ k i j : Fin 6, honeycombtop_linear.f (sxA k.1) (sxB k.1) (sxA i.1) (sxB i.1) (sxA j.1) (sxB j.1) = some ((linP k.1 i.1 j.1).1, (linP k.1 i.1 j.1).2) ∧ -2 ≤ (linP k.1 i.1 j.1).1 ∧ (linP k.1 i.1 j.1).1 ≤ 2 ∧ -2 ≤ (linP k.1 i.1 j.1).2 ∧ (linP k.1 i.1 j.1).2 ≤ 2 := by decide +kernel
theorem cnt_bd : ∀ i j k : Fin 6, 0 ≤ cntP (cntL i.1 j.1 k.1) (linP k.1 i.1 j.1) ∧ cntP (cntL i.1 j.1 k.1) (linP k.1 i.1 j.1) ≤ 6 := by decide +kernel
theorem on_10 : ∀ o : Fin 12, XOpOn.f o.1 1 0 = some ((onP o.1 1 0).1, (onP o.1 1 0).2, none) ∧ XOpOn.f o.1 0 1 = some ((onP o.1 0 1).1, (onP o.1 0 1).2, none) := by decide +kernel
theorem found_bd (i j : Nat) : ∀ o : Nat, 0 ≤ foundN i j o ∧ foundN i j o ≤ o
  | 0 => by simp [foundN]
  | o + 1 => by
    have := found_bd i j o
    unfold foundN
    split <;> omega
/-- what a look-up of a count gives -/
theorem look_P {w : World} {b : Nat} {L : List ((Int × Int) × Int)} (h : MapAt Tryd.prog 29 w b (L.map encP)) (q : Int × Int) (h1 : -9 ≤ q.1) (h2 : q.1 ≤ 9) (h3 : -9 ≤ q.2) (h4 : q.2 ≤ 9) :
    (Instr.lookup 48 (.map (some b)) (.agg #[.int .i64 q.1, .int .i64 q.2]) false).run Tryd.prog w = .ok (.int .i64 (cntP L q)) w := by
  obtain ⟨kl, hkl⟩ := ptKey q.1 q.2 (by omega) (by omega) (by omega) (by omega)
  rcases bump_P L q with ⟨j, hj, _⟩ | ⟨hn, h0, _⟩
  · exact h.look_some false ptKeyed Tryd.underlying48 hkl hj
  · rw [h0]
    exact h.look_none false ptKeyed Tryd.underlying48 zeroI hkl hn
/-- 'm[q]++' -/
theorem incr_P {w : World} {b : Nat} {L : List ((Int × Int) × Int)} (h : MapAt Tryd.prog 29 w b (L.map encP)) (q : Int × Int) (h1 : -9 ≤ q.1) (h2 : q.1 ≤ 9) (h3 : -9 ≤ q.2) (h4 : q.2 ≤ 9) :
    (Instr.lookup 48 (.map (some b)) (.agg #[.int .i64 q.1, .int .i64 q.2]) false).run Tryd.prog w = .ok (.int .i64 (cntP L q)) w ∧
    ∃ w1 st, (Instr.mapEntry 48 (.map (some b)) (.agg #[.int .i64 q.1, .int .i64 q.2])).run Tryd.prog w = .ok (.tuple #[.int .i64 (cntP L q), .int .i64 st]) w1 ∧ w.mapTurned w1 b ∧
      (Instr.lookup 48 (.map (some b)) (.agg #[.int .i64 q.1, .int .i64 q.2]) false).run Tryd.prog w1 = .ok (.int .i64 (cntP L q)) w1 ∧
      ∃ w2, (Instr.entryStore 48 (.map (some b)) (.int .i64 st) (.int .i64 (cntP L q + 1))).run Tryd.prog w1 = .ok () w2 ∧ w1.mapTurned w2 b ∧ MapAt Tryd.prog 29 w2 b ((putP L q (cntP L q + 1)).map encP) := by
  obtain ⟨kl, hkl⟩ := ptKey q.1 q.2 (by omega) (by omega) (by omega) (by omega)
  rcases bump_P L q with ⟨j, hj, _, hput⟩ | ⟨hn, h0, hput⟩
  · obtain ⟨hl, w1, st, he, ht, hs, hl1⟩ := h.bump ptKeyed Tryd.underlying48 zeroI hkl (.int .i64 (cntP L q)) _ (.inl ⟨j, hj, rfl⟩)
    obtain ⟨w2, h5, h6, h7⟩ := hs w1 rfl (.int .i64 (cntP L q + 1))
    exact ⟨hl, w1, st, he, ht, hl1, w2, h5, h7, by rw [← hput]; exact h6⟩
  · obtain ⟨hl, w1, st, he, ht, hs, hl1⟩ := h.bump ptKeyed Tryd.underlying48 zeroI hkl (.int .i64 (cntP L q)) _ (.inr ⟨hn, by rw [h0], rfl⟩)
    obtain ⟨w2, h5, h6, h7⟩ := hs w1 rfl (.int .i64 (cntP L q + 1))
    exact ⟨hl, w1, st, he, ht, hl1, w2, h5, h7, by rw [← hput]; exact h6⟩
/-- the cells that a round's statement loads -/
abbrev SR (g10 g6 g7 : Nat) (a b x y u v : Int) (W : World) : Prop := W.cell? ⟨g10, 0, none⟩ = some (.int .i64 a) ∧ W.cell? ⟨g10, 1, none⟩ = some (.int .i64 b) ∧ W.cell? ⟨g6, 0, none⟩ = some (.int .i64 x) ∧ W.cell? ⟨g6, 1, none⟩ = some (.int .i64 y) ∧ W.cell? ⟨g7, 0, none⟩ = some (.int .i64 u) ∧ W.cell? ⟨g7, 1, none⟩ = some (.int .i64 v)
theorem cell_heap {W W1 : World} {g : Nat} {o : Nat} {v : Value} (hh : W1.heap[g]? = W.heap[g]?) (h : W.cell? ⟨g, o, none⟩ = some v) : W1.cell? ⟨g, o, none⟩ = some v := by
  unfold World.cell? at h ⊢
  simp only [hh]
  exact h
theorem SR.heap {g10 g6 g7 : Nat} {a b x y u v : Int} {W W1 : World} (h : SR g10 g6 g7 a b x y u v W) (h1 : W1.heap[g10]? = W.heap[g10]?) (h2 : W1.heap[g6]? = W.heap[g6]?) (h3 : W1.heap[g7]? = W.heap[g7]?) : SR g10 g6 g7 a b x y u v W1 := by
  obtain ⟨c0, c1, c2, c3, c4, c5⟩ := h
  exact ⟨cell_heap h1 c0, cell_heap h1 c1, cell_heap h2 c2, cell_heap h2 c3, cell_heap h3 c4, cell_heap h3 c5⟩

set_option maxRecDepth 100000 in
set_option maxHeartbeats 4000000 in
theorem twelve_any (a b : Int) (w : World) (hG : Six w) :
    Calls Tryd.prog 4 #[.int .i64 a, .int .i64 b] w fun e w' => e = .returned (.bool true) ∧ Below w.heap.size w w' := by
  obtain ⟨i, hi, hI⟩ : ∃ i : Nat, i < 6 ∧ Int.tmod (Go.bits .and .i64 a 255) 6 = i := by
    rw [and_255, Int.tmod_eq_emod_of_nonneg (by omega)]
    exact ⟨(a % 256 % 6).toNat, by omega, by omega⟩
  obtain ⟨j, hj, hJ⟩ : ∃ j : Nat, j < 6 ∧ Int.tmod (Go.bits .and .i64 b 255) 6 = j := by
    rw [and_255, Int.tmod_eq_emod_of_nonneg (by omega)]
    exact ⟨(b % 256 % 6).toNat, by omega, by omega⟩
  have hix := sx_addr i hi
  have hjx := sx_addr j hj
  have hsix := fun W hW => XSix.calls 1 0 0 1 (-1) 1 (-1) 0 0 (-1) 1 (-1) W hW rfl
  have HG := Aside0.mk hG
  clear hG
  go_enter Tryd.func4, Tryd.ntmps4
  go_wp2_with fail
  refine (hsix _ HG.out).mono ?_
  rintro e w1 ⟨rfl, hb1⟩
  have HB1 := Aside0.mk hb1
  have HG1 := Aside0.mk (HG.out.below hb1)
  clear hb1 hsix
  go_upto_region 2 with (fail)
  obtain ⟨w2, hw2⟩ : ∃ w2, w2 = w1.alloc (.cells #[.int .i64 1, .int .i64 0, .int .i64 0, .int .i64 1, .int .i64 (-1), .int .i64 1, .int .i64 (-1), .int .i64 0, .int .i64 0, .int .i64 (-1), .int .i64 1, .int .i64 (-1)] 46) := ⟨_, rfl⟩
  have g5 : w2.heap[w1.heap.size]? = some (.cells sxV 46 (0, 0)) := by rw [hw2]; exact blk_new _ _
  have hBz : Below w1.heap.size w1 w2 := by rw [hw2]; exact below_alloc (Below.refl _ _) _
  rw [← hw2]
  have HB2 := Aside0.mk (HB1.out.trans (hBz.mono HB1.out.size))
  have HG2 := Aside0.mk (HG1.out.below hBz)
  have hz2 := hBz.size
  have hl5 : w1.heap.size < w2.heap.size := blk_lt g5
  clear hw2 hBz
  have ca0 : w2.cell? ⟨w1.heap.size, 2 * i, none⟩ = some (.int .i64 (sxA i)) := (blk_cell g5 (2 * i)).trans (sx_cell i hi).1
  have ca1 : w2.cell? ⟨w1.heap.size, 2 * i + 1, none⟩ = some (.int .i64 (sxB i)) := (blk_cell g5 (2 * i + 1)).trans (sx_cell i hi).2
  have cb0 : w2.cell? ⟨w1.heap.size, 2 * j, none⟩ = some (.int .i64 (sxA j)) := (blk_cell g5 (2 * j)).trans (sx_cell j hj).1
  have cb1 : w2.cell? ⟨w1.heap.size, 2 * j + 1, none⟩ = some (.int .i64 (sxB j)) := (blk_cell g5 (2 * j + 1)).trans (sx_cell j hj).2
  go_region
  · obtain ⟨w3, hw3⟩ : ∃ W, W = ((w2.alloc (.cells #[.int .i64 (sxA i), .int .i64 (sxB i)] 29)).alloc (.cells #[.int .i64 (sxA j), .int .i64 (sxB j)] 29)).drew := ⟨_, rfl⟩
    have b0 : w3.heap[w2.heap.size]? = some (.cells #[.int .i64 (sxA i), .int .i64 (sxB i)] 29 (0, 0)) := by rw [hw3]; exact blk_drew (blk_alloc (blk_new _ _) _)
    have b1 : w3.heap[w2.heap.size + 1]? = some (.cells #[.int .i64 (sxA j), .int .i64 (sxB j)] 29 (0, 0)) := by
      have := blk_new (w2.alloc (.cells #[.int .i64 (sxA i), .int .i64 (sxB i)] 29)) (.cells #[.int .i64 (sxA j), .int .i64 (sxB j)] 29)
      rw [World.size_alloc] at this
      rw [hw3]; exact blk_drew this
    have hB3 : Below w2.heap.size w2 w3 := by rw [hw3]; exact below_drew (below_alloc2 (below_alloc (Below.refl _ _) _) (by simp) _)
    have g5 := blk_below g5 hB3
    have HB3 := Aside0.mk (HB2.out.trans (hB3.mono HB2.out.size))
    have HG3 := Aside0.mk (HG2.out.below hB3)
    have hz3 := hB3.size
    rw [← hw3]
    clear hw3 hB3 ca0 ca1 cb0 cb1 hix hjx hI hJ
    obtain ⟨p6, hp6⟩ : ∃ p, p = w2.heap.size := ⟨_, rfl⟩
    obtain ⟨p7, hp7⟩ : ∃ p, p = w2.heap.size + 1 := ⟨_, rfl⟩
    rw [← hp7, ← hp6]
    rw [← hp6] at b0
    rw [← hp7] at b1
    have g6 := b0
    have g7 := b1
    clear b0 b1
    have hp6z : w2.heap.size ≤ p6 := by omega
    have hp7z : w2.heap.size ≤ p7 := by omega
    clear hp6 hp7
    have hmm := @run_makeMap Tryd.prog
    have hu5 : ∀ o, (w3.alloc (.map #[] 0)).cell? ⟨w1.heap.size, o, none⟩ = sxV[o]? := blk_cell (blk_alloc g5 _)
    have c0 := hu5 0
    have c1 := hu5 1
    have c2 := hu5 2
    have c3 := hu5 3
    have c4 := hu5 4
    have c5 := hu5 5
    have c6 := hu5 6
    have c7 := hu5 7
    have c8 := hu5 8
    have c9 := hu5 9
    have c10 := hu5 10
    have c11 := hu5 11
    simp only [List.getElem?_toArray, List.getElem?_cons_zero, List.getElem?_cons_succ] at c0 c1 c2 c3 c4 c5 c6 c7 c8 c9 c10 c11
    clear hu5
    go_wp2_with fail
    clear hmm c0 c1 c2 c3 c4 c5 c6 c7 c8 c9 c10 c11
    obtain ⟨w4, hw4⟩ : ∃ W, W = w3.alloc (.map #[] 0) := ⟨_, rfl⟩
    have hM4 : MapAt Tryd.prog 29 w4 w3.heap.size [] := by rw [hw4]; exact MapAt_made _ _ _
    have hB4 : Below w3.heap.size w3 w4 := by rw [hw4]; exact below_alloc (Below.refl _ _) _
    have l5 := blk_lt g5
    have l6 := blk_lt g6
    have l7 := blk_lt g7
    have g5 := blk_below g5 hB4
    have g6 := blk_below g6 hB4
    have g7 := blk_below g7 hB4
    have hz4 := hB4.size
    have HB4 := Aside0.mk (HB3.out.trans (hB4.mono HB3.out.size))
    have HG4 := Aside0.mk (HG3.out.below hB4)
    rw [← hw4]
    clear hw4 hB4
    obtain ⟨gm, hgm⟩ : ∃ g, g = w3.heap.size := ⟨_, rfl⟩
    obtain ⟨p5, hp5⟩ : ∃ g, g = w1.heap.size := ⟨_, rfl⟩
    rw [← hgm] at hM4 ⊢
    rw [← hp5] at g5 ⊢
    have hne5 : p5 ≠ gm := by omega
    have hne6 : p6 ≠ gm := by omega
    have hne7 : p7 ≠ gm := by omega
    have hgz : w.heap.size ≤ gm := Nat.le_trans HB3.out.size (by omega)
    clear hgm hp5
    have hj0 : ((cntL i j 0).map encP) = [] := rfl
    have HH0 := Aside0.mk hj0
    clear hj0
    go_loopw [33] (fun iv wr => ∃ k : Nat, k ≤ 6 ∧ iv = .int .i64 k ∧ MapAt Tryd.prog 29 wr gm ((cntL i j k).map encP) ∧ wr.heap[p5]? = some (.cells sxV 46 (0, 0)) ∧ wr.heap[p6]? = some (.cells #[.int .i64 (sxA i), .int .i64 (sxB i)] 29 (0, 0)) ∧ wr.heap[p7]? = some (.cells #[.int .i64 (sxA j), .int .i64 (sxB j)] 29 (0, 0)) ∧ Below w.heap.size w wr ∧ w4.heap.size ≤ wr.heap.size) (fun iv _ => 6 - (intOf iv).toNat)
    case atStart => exact ⟨0, by omega, rfl, by rw [HH0.out]; exact hM4, g5, g6, g7, HB4.out, Nat.le_refl _⟩
    case round =>
      obtain ⟨k, hk, rfl, hM, k5, k6, k7, hB, hzr⟩ := hrel
      have M5 := Aside0.mk hM
      have K5 := Aside0.mk k5
      have K6 := Aside0.mk k6
      have K7 := Aside0.mk k7
      have HB := Aside0.mk hB
      have hgmz := hM.lt
      have l5r := blk_lt k5
      have l6r := blk_lt k6
      have l7r := blk_lt k7
      have hBz := hB.size
      clear hM k5 k6 k7 hB g5 g6 g7 hM4 l5 l6 l7
      by_cases hlt : k < 6
      · have hix := sx_index k hlt
        obtain ⟨q, hq⟩ : ∃ q, q = linP k i j := ⟨_, rfl⟩
        obtain ⟨lf, q1, q2, q3, q4⟩ := lin_f ⟨k, hlt⟩ ⟨i, hi⟩ ⟨j, hj⟩
        obtain ⟨n0, n6⟩ := cnt_bd ⟨i, hi⟩ ⟨j, hj⟩ ⟨k, hlt⟩
        simp only [← hq] at lf q1 q2 q3 q4 n0 n6
        have hnext : cntL i j (k + 1) = putP (cntL i j k) q (cntP (cntL i j k) q + 1) := by rw [hq]; rfl
        have HN := Aside0.mk hnext
        have hcl := fun W => honeycombtop_linear.calls (sxA k) (sxB k) (sxA i) (sxB i) (sxA j) (sxB j) q.1 q.2 W lf
        clear hnext hq lf
        have hwr : IntKind.i64.wrap (cntP (cntL i j k) q + 1) = cntP (cntL i j k) q + 1 := by rw [IntKind.wrap_i64]; omega
        go_upto_region 7 with (fail)
        obtain ⟨w5, hw5⟩ : ∃ W, W = wr.alloc (.cells #[.int .i64 (sxA k), .int .i64 (sxB k)] 29) := ⟨_, rfl⟩
        have h10 : w5.heap[wr.heap.size]? = some (.cells #[.int .i64 (sxA k), .int .i64 (sxB k)] 29 (0, 0)) := by rw [hw5]; exact blk_new _ _
        have hB5 : Below wr.heap.size wr w5 := by rw [hw5]; exact below_alloc (Below.refl _ _) _
        have hz5 := hB5.size
        have k6 := blk_below K6.out hB5
        have k7 := blk_below K7.out hB5
        have hS : SR wr.heap.size p6 p7 (sxA k) (sxB k) (sxA i) (sxB i) (sxA j) (sxB j) w5.drew := ⟨blk_cell h10 0, blk_cell h10 1, blk_cell k6 0, blk_cell k6 1, blk_cell k7 0, blk_cell k7 1⟩
        have M6 := Aside0.mk (M5.out.below hB5)
        have B5 := Aside0.mk hB5
        have hlr := blk_lt h10
        rw [← hw5]
        clear hw5 hB5 h10 k6 k7
        go_region_held3 (fun W => W.cell? ⟨wr.heap.size, 0, none⟩ = some (.int .i64 (sxA k)) ∧ W.cell? ⟨wr.heap.size, 1, none⟩ = some (.int .i64 (sxB k)) ∧ W.cell? ⟨p6, 0, none⟩ = some (.int .i64 (sxA i)) ∧ W.cell? ⟨p6, 1, none⟩ = some (.int .i64 (sxB i)) ∧ W.cell? ⟨p7, 0, none⟩ = some (.int .i64 (sxA j)) ∧ W.cell? ⟨p7, 1, none⟩ = some (.int .i64 (sxB j)))
          (assumption)
          (first | (go_at_call 15; refine (hcl _).mono ?_; rintro e w6 ⟨rfl, hb6⟩
                    have hS6 : SR wr.heap.size p6 p7 (sxA k) (sxB k) (sxA i) (sxB i) (sxA j) (sxB j) w6 := hS.heap (hb6.block _ hlr) (hb6.block _ (by show p6 < w5.heap.size; omega)) (hb6.block _ (by show p7 < w5.heap.size; omega))
                    obtain ⟨hlk6, w7, st, hen6, htu6, hlk7, w8, hes, htu7, hm8⟩ := incr_P (MapAt.below (w := w5.drew) (w' := w6) M6.out hb6) q (by omega) (by omega) (by omega) (by omega)
                    have hS7 : SR wr.heap.size p6 p7 (sxA k) (sxB k) (sxA i) (sxB i) (sxA j) (sxB j) w7 := hS6.heap (mapTurned_heap htu6 (by omega)) (mapTurned_heap htu6 hne6) (mapTurned_heap htu6 hne7)
                    have hS8 : SR wr.heap.size p6 p7 (sxA k) (sxB k) (sxA i) (sxB i) (sxA j) (sxB j) w8 := hS7.heap (mapTurned_heap htu7 (by omega)) (mapTurned_heap htu7 hne6) (mapTurned_heap htu7 hne7)
                    have TU6 := Aside0.mk htu6
                    have TU7 := Aside0.mk htu7
                    have M8 := Aside0.mk hm8
                    have BB6 := Aside0.mk hb6
                    clear htu6 htu7 hm8 hb6))
        all_goals (
          have hz6 := BB6.out.size
          have hz56 : w5.heap.size ≤ w6.heap.size := hz6
          have hB6 : Below w.heap.size w w6 := (below_drew (HB.out.trans (B5.out.mono hBz))).trans (BB6.out.mono (by show w.heap.size ≤ w5.heap.size; omega))
          have hB7 := pw_below_grown hB6 _ hB6.size TU6.out.grown (fun k hk => by cases hk; exact hgz)
          have hB8 := pw_below_grown hB7 _ hB7.size TU7.out.grown (fun k hk => by cases hk; exact hgz)
          have hz7 := TU6.out.grown.size
          have hz8 := TU7.out.grown.size
          have k5 := (mapTurned_heap TU7.out hne5).trans ((mapTurned_heap TU6.out hne5).trans ((BB6.out.block p5 (by show p5 < w5.heap.size; omega)).trans (blk_below K5.out (below_drew B5.out))))
          have k6 := (mapTurned_heap TU7.out hne6).trans ((mapTurned_heap TU6.out hne6).trans ((BB6.out.block p6 (by show p6 < w5.heap.size; omega)).trans (blk_below K6.out (below_drew B5.out))))
          have k7 := (mapTurned_heap TU7.out hne7).trans ((mapTurned_heap TU6.out hne7).trans ((BB6.out.block p7 (by show p7 < w5.heap.size; omega)).trans (blk_below K7.out (below_drew B5.out))))
          have KK := Aside0.mk (And.intro k5 (And.intro k6 (And.intro k7 (And.intro hB8 (show w4.heap.size ≤ w8.heap.size by omega)))))
          clear k5 k6 k7 hB6 hB7 hB8 hz6 hz7 hz8 hz56 hlk6 hlk7 hen6 hes
          go_wp2
          go_roundw
          case rel => exact ⟨k + 1, by omega, by go_num, by rw [HN.out]; exact M8.out, KK.out.1, KK.out.2.1, KK.out.2.2.1, KK.out.2.2.2.1, KK.out.2.2.2.2⟩
          case measure => simp [intOf]; omega)
      · obtain rfl : k = 6 := by omega
        have hu5 : ∀ o, wr.cell? ⟨p5, o, none⟩ = sxV[o]? := blk_cell K5.out
        have c0 := hu5 0
        have c1 := hu5 1
        have c2 := hu5 2
        have c3 := hu5 3
        have c4 := hu5 4
        have c5 := hu5 5
        have c6 := hu5 6
        have c7 := hu5 7
        have c8 := hu5 8
        have c9 := hu5 9
        have c10 := hu5 10
        have c11 := hu5 11
        simp only [List.getElem?_toArray, List.getElem?_cons_zero, List.getElem?_cons_succ] at c0 c1 c2 c3 c4 c5 c6 c7 c8 c9 c10 c11
        clear hu5
        have hke : (((cntL i j 6).map encP).length : Int) = ((cntL i j 6).length : Int) := by rw [List.length_map]
        have HKE := Aside0.mk hke
        clear hke
        go_wp2_with (at_len; refine wpList_len_at rfl _ 48 rfl Tryd.underlying48 rfl M5.out ?_; rw [HKE.out])
        clear c0 c1 c2 c3 c4 c5 c6 c7 c8 c9 c10 c11
        have hk0 : (((cntL i j 6).length : Int) == 6) = keepsN i j 0 := rfl
        rw [hk0]
        clear hk0
        have HB1 := Aside0.mk HB.out
        go_loopw [50, 11] (fun iv kv wr => ∃ k : Nat, k ≤ 6 ∧ iv = .int .i64 k ∧ kv = .bool (keepsN i j k) ∧ MapAt Tryd.prog 29 wr gm ((cntL i j 6).map encP) ∧ wr.heap[p6]? = some (.cells #[.int .i64 (sxA i), .int .i64 (sxB i)] 29 (0, 0)) ∧ wr.heap[p7]? = some (.cells #[.int .i64 (sxA j), .int .i64 (sxB j)] 29 (0, 0)) ∧ Below w.heap.size w wr ∧ Six wr) (fun iv _ _ => 6 - (intOf iv).toNat)
        case atStart => exact ⟨0, by omega, rfl, rfl, M5.out, K6.out, K7.out, HB1.out, HG.out.below HB1.out⟩
        case round =>
          clear M5 K5 K6 K7 HB HB1
          obtain ⟨k, hk, rfl, rfl, hM, k6, k7, hB, hG6⟩ := hrel
          have M5 := Aside0.mk hM
          have K6 := Aside0.mk k6
          have K7 := Aside0.mk k7
          have HB := Aside0.mk hB
          have HG6 := Aside0.mk hG6
          have hBz := hB.size
          have l6r := blk_lt k6
          have l7r := blk_lt k7
          clear hM k6 k7 hB hG6
          by_cases hlt : k < 6
          · have hix := sx_index k hlt
            have hsb := sx_bd k
            have hBn : ∀ o : Obj, Below wr.heap.size wr (wr.alloc o) := fun o => below_alloc (Below.refl _ _) o
            have hlk := fun o : Obj => look_P (M5.out.below (hBn o)) (sxA k, sxB k) (by show -9 ≤ sxA k; omega) (by show sxA k ≤ 9; omega) (by show -9 ≤ sxB k; omega) (by show sxB k ≤ 9; omega)
            simp only at hlk
            have hnext : keepsN i j (k + 1) = (keepsN i j k && (cntP (cntL i j 6) (sxA k, sxB k) == 1)) := rfl
            have HN := Aside0.mk hnext
            clear hnext hsb
            have HBN := Aside0.mk hBn
            clear hBn
            cases hkp : keepsN i j k with
            | false =>
              rw [hkp] at HN
              go_wp2
              go_roundw
              case rel => exact ⟨k + 1, by omega, by go_num, by rw [HN.out]; rfl, M5.out.below (HBN.out _), blk_below K6.out (HBN.out _), blk_below K7.out (HBN.out _), HB.out.trans ((HBN.out _).mono hBz), HG6.out.below (HBN.out _)⟩
              case measure => simp [intOf]; omega
            | true =>
              rw [hkp] at HN
              go_wp2
              go_roundw
              case rel => exact ⟨k + 1, by omega, by go_num, by rw [HN.out, Bool.true_and], M5.out.below (HBN.out _), blk_below K6.out (HBN.out _), blk_below K7.out (HBN.out _), HB.out.trans ((HBN.out _).mono hBz), HG6.out.below (HBN.out _)⟩
              case measure => simp [intOf]; omega
          · obtain rfl : k = 6 := by omega
            clear M5
            obtain ⟨KP, hKP⟩ : ∃ b, b = keepsN i j 6 := ⟨_, rfl⟩
            rw [← hKP]
            have HKP := Aside0.mk hKP
            clear hKP
            try rw [show ((6 : Nat) : Int) = 6 from rfl]
            go_wp2_with fail
            try rw [show ((6 : Nat) : Int) = 6 from rfl]
            go_loopw [61, 14] (fun iv fv wr => ∃ o : Nat, o ≤ 12 ∧ iv = .int .i64 o ∧ fv = .int .i64 (foundN i j o) ∧ wr.heap[p6]? = some (.cells #[.int .i64 (sxA i), .int .i64 (sxB i)] 29 (0, 0)) ∧ wr.heap[p7]? = some (.cells #[.int .i64 (sxA j), .int .i64 (sxB j)] 29 (0, 0)) ∧ Below w.heap.size w wr ∧ Six wr) (fun iv _ _ => 12 - (intOf iv).toNat)
            case atStart => exact ⟨0, by omega, rfl, rfl, K6.out, K7.out, HB.out, HG6.out⟩
            case round =>
              clear K6 K7 HB HG6
              obtain ⟨o, ho, rfl, rfl, k6, k7, hB, hG6⟩ := hrel
              have K6 := Aside0.mk k6
              have K7 := Aside0.mk k7
              have HB := Aside0.mk hB
              have HG6 := Aside0.mk hG6
              have hBz := hB.size
              have l6r := blk_lt k6
              have l7r := blk_lt k7
              clear k6 k7 hB hG6
              by_cases hlt : o < 12
              · obtain ⟨o1, o2⟩ := on_10 ⟨o, hlt⟩
                simp only at o1 o2
                obtain ⟨f0, f1⟩ := found_bd i j o
                have hwr : IntKind.i64.wrap (foundN i j o + 1) = foundN i j o + 1 := by rw [IntKind.wrap_i64]; omega
                have hnext : foundN i j (o + 1) = if ((onP o 1 0).1 == sxA i && (onP o 1 0).2 == sxB i) = true ∧ ((onP o 0 1).1 == sxA j && (onP o 0 1).2 == sxB j) = true then foundN i j o + 1 else foundN i j o := by
                  show (if onP o 1 0 = (sxA i, sxB i) ∧ onP o 0 1 = (sxA j, sxB j) then _ else _) = _
                  simp only [Bool.and_eq_true, beq_iff_eq, Prod.ext_iff]
                have c1 := fun W => XOpOn.calls o 1 0 _ _ _ W o1
                have c2 := fun W => XOpOn.calls o 0 1 _ _ _ W o2
                simp only [errW_none] at c1 c2
                generalize (onP o 1 0).1 = u0 at hnext c1
                generalize (onP o 1 0).2 = u1 at hnext c1
                generalize (onP o 0 1).1 = v0 at hnext c2
                generalize (onP o 0 1).2 = v1 at hnext c2
                clear o1 o2 f0 f1
                have HN := Aside0.mk hnext
                clear hnext
                go_wp2_with fail
                refine (c1 _).mono ?_
                rintro e wA ⟨rfl, hbA⟩
                have hzA := hbA.size
                have HBA := Aside0.mk hbA
                clear hbA
                go_wp2_with fail
                obtain ⟨wB, hwB⟩ : ∃ W, W = wA.alloc (.cells #[.int .i64 u0, .int .i64 u1] 29) := ⟨_, rfl⟩
                have s0 : wB.heap[wA.heap.size]? = some (.cells #[.int .i64 u0, .int .i64 u1] 29 (0, 0)) := by rw [hwB]; exact blk_new _ _
                have hBB : Below wA.heap.size wA wB := by rw [hwB]; exact below_alloc (Below.refl _ _) _
                rw [← hwB]
                clear hwB
                have HBB := Aside0.mk (HBA.out.trans (hBB.mono hzA))
                clear hBB
                refine (c2 _).mono ?_
                rintro e wC ⟨rfl, hbC⟩
                have hzB := blk_lt s0
                have s0 := blk_below s0 hbC
                have hzC := hbC.size
                have HBC := Aside0.mk (HBB.out.trans (hbC.mono (by omega)))
                clear hbC
                have q0 : ∀ ob : Obj, (wC.alloc ob).cell? ⟨wA.heap.size, 0, none⟩ = some (.int .i64 u0) := fun ob => blk_cell (blk_alloc s0 ob) 0
                have q1 : ∀ ob : Obj, (wC.alloc ob).cell? ⟨wA.heap.size, 1, none⟩ = some (.int .i64 u1) := fun ob => blk_cell (blk_alloc s0 ob) 1
                have x0 : ∀ ob : Obj, (wC.alloc ob).cell? ⟨p6, 0, none⟩ = some (.int .i64 (sxA i)) := fun ob => blk_cell (blk_alloc (blk_below K6.out HBC.out) ob) 0
                have x1 : ∀ ob : Obj, (wC.alloc ob).cell? ⟨p6, 1, none⟩ = some (.int .i64 (sxB i)) := fun ob => blk_cell (blk_alloc (blk_below K6.out HBC.out) ob) 1
                have y0 : ∀ ob : Obj, (wC.alloc ob).cell? ⟨p7, 0, none⟩ = some (.int .i64 (sxA j)) := fun ob => blk_cell (blk_alloc (blk_below K7.out HBC.out) ob) 0
                have y1 : ∀ ob : Obj, (wC.alloc ob).cell? ⟨p7, 1, none⟩ = some (.int .i64 (sxB j)) := fun ob => blk_cell (blk_alloc (blk_below K7.out HBC.out) ob) 1
                have hrz : wr.heap.size ≤ wC.heap.size := HBC.out.size
                clear s0 c1 c2
                have HE : ∀ ob : Obj, Below wr.heap.size wr (wC.alloc ob) := fun ob => below_alloc2 HBC.out hrz ob
                have HE := Aside0.mk HE
                cases hp1 : (u0 == sxA i && u1 == sxB i) with
                | false =>
                  rw [hp1] at HN
                  go_wp2
                  go_roundw
                  case rel => exact ⟨o + 1, by omega, by go_num, by rw [HN.out, if_neg (by simp)], blk_below K6.out (HE.out _), blk_below K7.out (HE.out _), HB.out.trans ((HE.out _).mono hBz), HG6.out.below (HE.out _)⟩
                  case measure => simp [intOf]; omega
                | true =>
                  cases hp2 : (v0 == sxA j && v1 == sxB j) with
                  | false =>
                    rw [hp1, hp2] at HN
                    go_wp2
                    go_roundw
                    case rel => exact ⟨o + 1, by omega, by go_num, by rw [HN.out, if_neg (by simp)], blk_below K6.out (HE.out _), blk_below K7.out (HE.out _), HB.out.trans ((HE.out _).mono hBz), HG6.out.below (HE.out _)⟩
                    case measure => simp [intOf]; omega
                  | true =>
                    rw [hp1, hp2] at HN
                    go_wp2
                    go_roundw
                    case rel => exact ⟨o + 1, by omega, by go_num, by rw [HN.out, if_pos (by simp)], blk_below K6.out (HE.out _), blk_below K7.out (HE.out _), HB.out.trans ((HE.out _).mono hBz), HG6.out.below (HE.out _)⟩
                    case measure => simp [intOf]; omega
              · obtain rfl : o = 12 := by omega
                obtain ⟨t1, t2⟩ := twelve_plain ⟨i, hi⟩ ⟨j, hj⟩
                simp only at t1 t2
                rw [← HKP.out] at t1 t2
                generalize foundN i j 12 = F at t1 t2 ⊢
                go_wp2_with fail
                refine (awake02_any _ HG6.out).mono ?_
                rintro e wZ ⟨rfl, hbZ⟩
                have HBZ := Aside0.mk (HB.out.trans (hbZ.mono hBz))
                clear hbZ
                go_wp2
                go_ret
                exact ⟨rfl, HBZ.out⟩
  · obtain ⟨w3, hw3⟩ : ∃ W, W = ((w2.alloc (.cells #[.int .i64 (sxA j), .int .i64 (sxB j)] 29)).alloc (.cells #[.int .i64 (sxA i), .int .i64 (sxB i)] 29)).drew := ⟨_, rfl⟩
    have b0 : w3.heap[w2.heap.size]? = some (.cells #[.int .i64 (sxA j), .int .i64 (sxB j)] 29 (0, 0)) := by rw [hw3]; exact blk_drew (blk_alloc (blk_new _ _) _)
    have b1 : w3.heap[w2.heap.size + 1]? = some (.cells #[.int .i64 (sxA i), .int .i64 (sxB i)] 29 (0, 0)) := by
      have := blk_new (w2.alloc (.cells #[.int .i64 (sxA j), .int .i64 (sxB j)] 29)) (.cells #[.int .i64 (sxA i), .int .i64 (sxB i)] 29)
      rw [World.size_alloc] at this
      rw [hw3]; exact blk_drew this
    have hB3 : Below w2.heap.size w2 w3 := by rw [hw3]; exact below_drew (below_alloc2 (below_alloc (Below.refl _ _) _) (by simp) _)
    have g5 := blk_below g5 hB3
    have HB3 := Aside0.mk (HB2.out.trans (hB3.mono HB2.out.size))
    have HG3 := Aside0.mk (HG2.out.below hB3)
    have hz3 := hB3.size
    rw [← hw3]
    clear hw3 hB3 ca0 ca1 cb0 cb1 hix hjx hI hJ
    obtain ⟨p6, hp6⟩ : ∃ p, p = w2.heap.size + 1 := ⟨_, rfl⟩
    obtain ⟨p7, hp7⟩ : ∃ p, p = w2.heap.size := ⟨_, rfl⟩
    rw [← hp6, ← hp7]
    rw [← hp7] at b0
    rw [← hp6] at b1
    have g6 := b1
    have g7 := b0
    clear b0 b1
    have hp6z : w2.heap.size ≤ p6 := by omega
    have hp7z : w2.heap.size ≤ p7 := by omega
    clear hp6 hp7
    have hmm := @run_makeMap Tryd.prog
    have hu5 : ∀ o, (w3.alloc (.map #[] 0)).cell? ⟨w1.heap.size, o, none⟩ = sxV[o]? := blk_cell (blk_alloc g5 _)
    have c0 := hu5 0
    have c1 := hu5 1
    have c2 := hu5 2
    have c3 := hu5 3
    have c4 := hu5 4
    have c5 := hu5 5
    have c6 := hu5 6
    have c7 := hu5 7
    have c8 := hu5 8
    have c9 := hu5 9
    have c10 := hu5 10
    have c11 := hu5 11
    simp only [List.getElem?_toArray, List.getElem?_cons_zero, List.getElem?_cons_succ] at c0 c1 c2 c3 c4 c5 c6 c7 c8 c9 c10 c11
    clear hu5
    go_wp2_with fail
    clear hmm c0 c1 c2 c3 c4 c5 c6 c7 c8 c9 c10 c11
    obtain ⟨w4, hw4⟩ : ∃ W, W = w3.alloc (.map #[] 0) := ⟨_, rfl⟩
    have hM4 : MapAt Tryd.prog 29 w4 w3.heap.size [] := by rw [hw4]; exact MapAt_made _ _ _
    have hB4 : Below w3.heap.size w3 w4 := by rw [hw4]; exact below_alloc (Below.refl _ _) _
    have l5 := blk_lt g5
    have l6 := blk_lt g6
    have l7 := blk_lt g7
    have g5 := blk_below g5 hB4
    have g6 := blk_below g6 hB4
    have g7 := blk_below g7 hB4
    have hz4 := hB4.size
    have HB4 := Aside0.mk (HB3.out.trans (hB4.mono HB3.out.size))
    have HG4 := Aside0.mk (HG3.out.below hB4)
    rw [← hw4]
    clear hw4 hB4
    obtain ⟨gm, hgm⟩ : ∃ g, g = w3.heap.size := ⟨_, rfl⟩
    obtain ⟨p5, hp5⟩ : ∃ g, g = w1.heap.size := ⟨_, rfl⟩
    rw [← hgm] at hM4 ⊢
    rw [← hp5] at g5 ⊢
    have hne5 : p5 ≠ gm := by omega
    have hne6 : p6 ≠ gm := by omega
    have hne7 : p7 ≠ gm := by omega
    have hgz : w.heap.size ≤ gm := Nat.le_trans HB3.out.size (by omega)
    clear hgm hp5
    have hj0 : ((cntL i j 0).map encP) = [] := rfl
    have HH0 := Aside0.mk hj0
    clear hj0
    go_loopw [33] (fun iv wr => ∃ k : Nat, k ≤ 6 ∧ iv = .int .i64 k ∧ MapAt Tryd.prog 29 wr gm ((cntL i j k).map encP) ∧ wr.heap[p5]? = some (.cells sxV 46 (0, 0)) ∧ wr.heap[p6]? = some (.cells #[.int .i64 (sxA i), .int .i64 (sxB i)] 29 (0, 0)) ∧ wr.heap[p7]? = some (.cells #[.int .i64 (sxA j), .int .i64 (sxB j)] 29 (0, 0)) ∧ Below w.heap.size w wr ∧ w4.heap.size ≤ wr.heap.size) (fun iv _ => 6 - (intOf iv).toNat)
    case atStart => exact ⟨0, by omega, rfl, by rw [HH0.out]; exact hM4, g5, g6, g7, HB4.out, Nat.le_refl _⟩
    case round =>
      obtain ⟨k, hk, rfl, hM, k5, k6, k7, hB, hzr⟩ := hrel
      have M5 := Aside0.mk hM
      have K5 := Aside0.mk k5
      have K6 := Aside0.mk k6
      have K7 := Aside0.mk k7
      have HB := Aside0.mk hB
      have hgmz := hM.lt
      have l5r := blk_lt k5
      have l6r := blk_lt k6
      have l7r := blk_lt k7
      have hBz := hB.size
      clear hM k5 k6 k7 hB g5 g6 g7 hM4 l5 l6 l7
      by_cases hlt : k < 6
      · have hix := sx_index k hlt
        obtain ⟨q, hq⟩ : ∃ q, q = linP k i j := ⟨_, rfl⟩
        obtain ⟨lf, q1, q2, q3, q4⟩ := lin_f ⟨k, hlt⟩ ⟨i, hi⟩ ⟨j, hj⟩
        obtain ⟨n0, n6⟩ := cnt_bd ⟨i, hi⟩ ⟨j, hj⟩ ⟨k, hlt⟩
        simp only [← hq] at lf q1 q2 q3 q4 n0 n6
        have hnext : cntL i j (k + 1) = putP (cntL i j k) q (cntP (cntL i j k) q + 1) := by rw [hq]; rfl
        have HN := Aside0.mk hnext
        have hcl := fun W => honeycombtop_linear.calls (sxA k) (sxB k) (sxA i) (sxB i) (sxA j) (sxB j) q.1 q.2 W lf
        clear hnext hq lf
        have hwr : IntKind.i64.wrap (cntP (cntL i j k) q + 1) = cntP (cntL i j k) q + 1 := by rw [IntKind.wrap_i64]; omega
        go_upto_region 7 with (fail)
        obtain ⟨w5, hw5⟩ : ∃ W, W = wr.alloc (.cells #[.int .i64 (sxA k), .int .i64 (sxB k)] 29) := ⟨_, rfl⟩
        have h10 : w5.heap[wr.heap.size]? = some (.cells #[.int .i64 (sxA k), .int .i64 (sxB k)] 29 (0, 0)) := by rw [hw5]; exact blk_new _ _
        have hB5 : Below wr.heap.size wr w5 := by rw [hw5]; exact below_alloc (Below.refl _ _) _
        have hz5 := hB5.size
        have k6 := blk_below K6.out hB5
        have k7 := blk_below K7.out hB5
        have hS : SR wr.heap.size p6 p7 (sxA k) (sxB k) (sxA i) (sxB i) (sxA j) (sxB j) w5.drew := ⟨blk_cell h10 0, blk_cell h10 1, blk_cell k6 0, blk_cell k6 1, blk_cell k7 0, blk_cell k7 1⟩
        have M6 := Aside0.mk (M5.out.below hB5)
        have B5 := Aside0.mk hB5
        have hlr := blk_lt h10
        rw [← hw5]
        clear hw5 hB5 h10 k6 k7
        go_region_held3 (fun W => W.cell? ⟨wr.heap.size, 0, none⟩ = some (.int .i64 (sxA k)) ∧ W.cell? ⟨wr.heap.size, 1, none⟩ = some (.int .i64 (sxB k)) ∧ W.cell? ⟨p6, 0, none⟩ = some (.int .i64 (sxA i)) ∧ W.cell? ⟨p6, 1, none⟩ = some (.int .i64 (sxB i)) ∧ W.cell? ⟨p7, 0, none⟩ = some (.int .i64 (sxA j)) ∧ W.cell? ⟨p7, 1, none⟩ = some (.int .i64 (sxB j)))
          (assumption)
          (first | (go_at_call 15; refine (hcl _).mono ?_; rintro e w6 ⟨rfl, hb6⟩
                    have hS6 : SR wr.heap.size p6 p7 (sxA k) (sxB k) (sxA i) (sxB i) (sxA j) (sxB j) w6 := hS.heap (hb6.block _ hlr) (hb6.block _ (by show p6 < w5.heap.size; omega)) (hb6.block _ (by show p7 < w5.heap.size; omega))
                    obtain ⟨hlk6, w7, st, hen6, htu6, hlk7, w8, hes, htu7, hm8⟩ := incr_P (MapAt.below (w := w5.drew) (w' := w6) M6.out hb6) q (by omega) (by omega) (by omega) (by omega)
                    have hS7 : SR wr.heap.size p6 p7 (sxA k) (sxB k) (sxA i) (sxB i) (sxA j) (sxB j) w7 := hS6.heap (mapTurned_heap htu6 (by omega)) (mapTurned_heap htu6 hne6) (mapTurned_heap htu6 hne7)
                    have hS8 : SR wr.heap.size p6 p7 (sxA k) (sxB k) (sxA i) (sxB i) (sxA j) (sxB j) w8 := hS7.heap (mapTurned_heap htu7 (by omega)) (mapTurned_heap htu7 hne6) (mapTurned_heap htu7 hne7)
                    have TU6 := Aside0.mk htu6
                    have TU7 := Aside0.mk htu7
                    have M8 := Aside0.mk hm8
                    have BB6 := Aside0.mk hb6
                    clear htu6 htu7 hm8 hb6))
        all_goals (
          have hz6 := BB6.out.size
          have hz56 : w5.heap.size ≤ w6.heap.size := hz6
          have hB6 : Below w.heap.size w w6 := (below_drew (HB.out.trans (B5.out.mono hBz))).trans (BB6.out.mono (by show w.heap.size ≤ w5.heap.size; omega))
          have hB7 := pw_below_grown hB6 _ hB6.size TU6.out.grown (fun k hk => by cases hk; exact hgz)
          have hB8 := pw_below_grown hB7 _ hB7.size TU7.out.grown (fun k hk => by cases hk; exact hgz)
          have hz7 := TU6.out.grown.size
          have hz8 := TU7.out.grown.size
          have k5 := (mapTurned_heap TU7.out hne5).trans ((mapTurned_heap TU6.out hne5).trans ((BB6.out.block p5 (by show p5 < w5.heap.size; omega)).trans (blk_below K5.out (below_drew B5.out))))
          have k6 := (mapTurned_heap TU7.out hne6).trans ((mapTurned_heap TU6.out hne6).trans ((BB6.out.block p6 (by show p6 < w5.heap.size; omega)).trans (blk_below K6.out (below_drew B5.out))))
          have k7 := (mapTurned_heap TU7.out hne7).trans ((mapTurned_heap TU6.out hne7).trans ((BB6.out.block p7 (by show p7 < w5.heap.size; omega)).trans (blk_below K7.out (below_drew B5.out))))
          have KK := Aside0.mk (And.intro k5 (And.intro k6 (And.intro k7 (And.intro hB8 (show w4.heap.size ≤ w8.heap.size by omega)))))
          clear k5 k6 k7 hB6 hB7 hB8 hz6 hz7 hz8 hz56 hlk6 hlk7 hen6 hes
          go_wp2
          go_roundw
          case rel => exact ⟨k + 1, by omega, by go_num, by rw [HN.out]; exact M8.out, KK.out.1, KK.out.2.1, KK.out.2.2.1, KK.out.2.2.2.1, KK.out.2.2.2.2⟩
          case measure => simp [intOf]; omega)
      · obtain rfl : k = 6 := by omega
        have hu5 : ∀ o, wr.cell? ⟨p5, o, none⟩ = sxV[o]? := blk_cell K5.out
        have c0 := hu5 0
        have c1 := hu5 1
        have c2 := hu5 2
        have c3 := hu5 3
        have c4 := hu5 4
        have c5 := hu5 5
        have c6 := hu5 6
        have c7 := hu5 7
        have c8 := hu5 8
        have c9 := hu5 9
        have c10 := hu5 10
        have c11 := hu5 11
        simp only [List.getElem?_toArray, List.getElem?_cons_zero, List.getElem?_cons_succ] at c0 c1 c2 c3 c4 c5 c6 c7 c8 c9 c10 c11
        clear hu5
        have hke : (((cntL i j 6).map encP).length : Int) = ((cntL i j 6).length : Int) := by rw [List.length_map]
        have HKE := Aside0.mk hke
        clear hke
        go_wp2_with (at_len; refine wpList_len_at rfl _ 48 rfl Tryd.underlying48 rfl M5.out ?_; rw [HKE.out])
        clear c0 c1 c2 c3 c4 c5 c6 c7 c8 c9 c10 c11
        have hk0 : (((cntL i j 6).length : Int) == 6) = keepsN i j 0 := rfl
        rw [hk0]
        clear hk0
        have HB1 := Aside0.mk HB.out
        go_loopw [50, 11] (fun iv kv wr => ∃ k : Nat, k ≤ 6 ∧ iv = .int .i64 k ∧ kv = .bool (keepsN i j k) ∧ MapAt Tryd.prog 29 wr gm ((cntL i j 6).map encP) ∧ wr.heap[p6]? = some (.cells #[.int .i64 (sxA i), .int .i64 (sxB i)] 29 (0, 0)) ∧ wr.heap[p7]? = some (.cells #[.int .i64 (sxA j), .int .i64 (sxB j)] 29 (0, 0)) ∧ Below w.heap.size w wr ∧ Six wr) (fun iv _ _ => 6 - (intOf iv).toNat)
        case atStart => exact ⟨0, by omega, rfl, rfl, M5.out, K6.out, K7.out, HB1.out, HG.out.below HB1.out⟩
        case round =>
          clear M5 K5 K6 K7 HB HB1
          obtain ⟨k, hk, rfl, rfl, hM, k6, k7, hB, hG6⟩ := hrel
          have M5 := Aside0.mk hM
          have K6 := Aside0.mk k6
          have K7 := Aside0.mk k7
          have HB := Aside0.mk hB
          have HG6 := Aside0.mk hG6
          have hBz := hB.size
          have l6r := blk_lt k6
          have l7r := blk_lt k7
          clear hM k6 k7 hB hG6
          by_cases hlt : k < 6
          · have hix := sx_index k hlt
            have hsb := sx_bd k
            have hBn : ∀ o : Obj, Below wr.heap.size wr (wr.alloc o) := fun o => below_alloc (Below.refl _ _) o
            have hlk := fun o : Obj => look_P (M5.out.below (hBn o)) (sxA k, sxB k) (by show -9 ≤ sxA k; omega) (by show sxA k ≤ 9; omega) (by show -9 ≤ sxB k; omega) (by show sxB k ≤ 9; omega)
            simp only at hlk
            have hnext : keepsN i j (k + 1) = (keepsN i j k && (cntP (cntL i j 6) (sxA k, sxB k) == 1)) := rfl
            have HN := Aside0.mk hnext
            clear hnext hsb
            have HBN := Aside0.mk hBn
            clear hBn
            cases hkp : keepsN i j k with
            | false =>
              rw [hkp] at HN
              go_wp2
              go_roundw
              case rel => exact ⟨k + 1, by omega, by go_num, by rw [HN.out]; rfl, M5.out.below (HBN.out _), blk_below K6.out (HBN.out _), blk_below K7.out (HBN.out _), HB.out.trans ((HBN.out _).mono hBz), HG6.out.below (HBN.out _)⟩
              case measure => simp [intOf]; omega
            | true =>
              rw [hkp] at HN
              go_wp2
              go_roundw
              case rel => exact ⟨k + 1, by omega, by go_num, by rw [HN.out, Bool.true_and], M5.out.below (HBN.out _), blk_below K6.out (HBN.out _), blk_below K7.out (HBN.out _), HB.out.trans ((HBN.out _).mono hBz), HG6.out.below (HBN.out _)⟩
              case measure => simp [intOf]; omega
          · obtain rfl : k = 6 := by omega
            clear M5
            obtain ⟨KP, hKP⟩ : ∃ b, b = keepsN i j 6 := ⟨_, rfl⟩
            rw [← hKP]
            have HKP := Aside0.mk hKP
            clear hKP
            try rw [show ((6 : Nat) : Int) = 6 from rfl]
            go_wp2_with fail
            try rw [show ((6 : Nat) : Int) = 6 from rfl]
            go_loopw [61, 14] (fun iv fv wr => ∃ o : Nat, o ≤ 12 ∧ iv = .int .i64 o ∧ fv = .int .i64 (foundN i j o) ∧ wr.heap[p6]? = some (.cells #[.int .i64 (sxA i), .int .i64 (sxB i)] 29 (0, 0)) ∧ wr.heap[p7]? = some (.cells #[.int .i64 (sxA j), .int .i64 (sxB j)] 29 (0, 0)) ∧ Below w.heap.size w wr ∧ Six wr) (fun iv _ _ => 12 - (intOf iv).toNat)
            case atStart => exact ⟨0, by omega, rfl, rfl, K6.out, K7.out, HB.out, HG6.out⟩
            case round =>
              clear K6 K7 HB HG6
              obtain ⟨o, ho, rfl, rfl, k6, k7, hB, hG6⟩ := hrel
              have K6 := Aside0.mk k6
              have K7 := Aside0.mk k7
              have HB := Aside0.mk hB
              have HG6 := Aside0.mk hG6
              have hBz := hB.size
              have l6r := blk_lt k6
              have l7r := blk_lt k7
              clear k6 k7 hB hG6
              by_cases hlt : o < 12
              · obtain ⟨o1, o2⟩ := on_10 ⟨o, hlt⟩
                simp only at o1 o2
                obtain ⟨f0, f1⟩ := found_bd i j o
                have hwr : IntKind.i64.wrap (foundN i j o + 1) = foundN i j o + 1 := by rw [IntKind.wrap_i64]; omega
                have hnext : foundN i j (o + 1) = if ((onP o 1 0).1 == sxA i && (onP o 1 0).2 == sxB i) = true ∧ ((onP o 0 1).1 == sxA j && (onP o 0 1).2 == sxB j) = true then foundN i j o + 1 else foundN i j o := by
                  show (if onP o 1 0 = (sxA i, sxB i) ∧ onP o 0 1 = (sxA j, sxB j) then _ else _) = _
                  simp only [Bool.and_eq_true, beq_iff_eq, Prod.ext_iff]
                have c1 := fun W => XOpOn.calls o 1 0 _ _ _ W o1
                have c2 := fun W => XOpOn.calls o 0 1 _ _ _ W o2
                simp only [errW_none] at c1 c2
                generalize (onP o 1 0).1 = u0 at hnext c1
                generalize (onP o 1 0).2 = u1 at hnext c1
                generalize (onP o 0 1).1 = v0 at hnext c2
                generalize (onP o 0 1).2 = v1 at hnext c2
                clear o1 o2 f0 f1
                have HN := Aside0.mk hnext
                clear hnext
                go_wp2_with fail
                refine (c1 _).mono ?_
                rintro e wA ⟨rfl, hbA⟩
                have hzA := hbA.size
                have HBA := Aside0.mk hbA
                clear hbA
                go_wp2_with fail
                obtain ⟨wB, hwB⟩ : ∃ W, W = wA.alloc (.cells #[.int .i64 u0, .int .i64 u1] 29) := ⟨_, rfl⟩
                have s0 : wB.heap[wA.heap.size]? = some (.cells #[.int .i64 u0, .int .i64 u1] 29 (0, 0)) := by rw [hwB]; exact blk_new _ _
                have hBB : Below wA.heap.size wA wB := by rw [hwB]; exact below_alloc (Below.refl _ _) _
                rw [← hwB]
                clear hwB
                have HBB := Aside0.mk (HBA.out.trans (hBB.mono hzA))
                clear hBB
                refine (c2 _).mono ?_
                rintro e wC ⟨rfl, hbC⟩
                have hzB := blk_lt s0
                have s0 := blk_below s0 hbC
                have hzC := hbC.size
                have HBC := Aside0.mk (HBB.out.trans (hbC.mono (by omega)))
                clear hbC
                have q0 : ∀ ob : Obj, (wC.alloc ob).cell? ⟨wA.heap.size, 0, none⟩ = some (.int .i64 u0) := fun ob => blk_cell (blk_alloc s0 ob) 0
                have q1 : ∀ ob : Obj, (wC.alloc ob).cell? ⟨wA.heap.size, 1, none⟩ = some (.int .i64 u1) := fun ob => blk_cell (blk_alloc s0 ob) 1
                have x0 : ∀ ob : Obj, (wC.alloc ob).cell? ⟨p6, 0, none⟩ = some (.int .i64 (sxA i)) := fun ob => blk_cell (blk_alloc (blk_below K6.out HBC.out) ob) 0
                have x1 : ∀ ob : Obj, (wC.alloc ob).cell? ⟨p6, 1, none⟩ = some (.int .i64 (sxB i)) := fun ob => blk_cell (blk_alloc (blk_below K6.out HBC.out) ob) 1
                have y0 : ∀ ob : Obj, (wC.alloc ob).cell? ⟨p7, 0, none⟩ = some (.int .i64 (sxA j)) := fun ob => blk_cell (blk_alloc (blk_below K7.out HBC.out) ob) 0
                have y1 : ∀ ob : Obj, (wC.alloc ob).cell? ⟨p7, 1, none⟩ = some (.int .i64 (sxB j)) := fun ob => blk_cell (blk_alloc (blk_below K7.out HBC.out) ob) 1
                have hrz : wr.heap.size ≤ wC.heap.size := HBC.out.size
                clear s0 c1 c2
                have HE : ∀ ob : Obj, Below wr.heap.size wr (wC.alloc ob) := fun ob => below_alloc2 HBC.out hrz ob
                have HE := Aside0.mk HE
                cases hp1 : (u0 == sxA i && u1 == sxB i) with
                | false =>
                  rw [hp1] at HN
                  go_wp2
                  go_roundw
                  case rel => exact ⟨o + 1, by omega, by go_num, by rw [HN.out, if_neg (by simp)], blk_below K6.out (HE.out _), blk_below K7.out (HE.out _), HB.out.trans ((HE.out _).mono hBz), HG6.out.below (HE.out _)⟩
                  case measure => simp [intOf]; omega
                | true =>
                  cases hp2 : (v0 == sxA j && v1 == sxB j) with
                  | false =>
                    rw [hp1, hp2] at HN
                    go_wp2
                    go_roundw
                    case rel => exact ⟨o + 1, by omega, by go_num, by rw [HN.out, if_neg (by simp)], blk_below K6.out (HE.out _), blk_below K7.out (HE.out _), HB.out.trans ((HE.out _).mono hBz), HG6.out.below (HE.out _)⟩
                    case measure => simp [intOf]; omega
                  | true =>
                    rw [hp1, hp2] at HN
                    go_wp2
                    go_roundw
                    case rel => exact ⟨o + 1, by omega, by go_num, by rw [HN.out, if_pos (by simp)], blk_below K6.out (HE.out _), blk_below K7.out (HE.out _), HB.out.trans ((HE.out _).mono hBz), HG6.out.below (HE.out _)⟩
                    case measure => simp [intOf]; omega
              · obtain rfl : o = 12 := by omega
                obtain ⟨t1, t2⟩ := twelve_plain ⟨i, hi⟩ ⟨j, hj⟩
                simp only at t1 t2
                rw [← HKP.out] at t1 t2
                generalize foundN i j 12 = F at t1 t2 ⊢
                go_wp2_with fail
                refine (awake02_any _ HG6.out).mono ?_
                rintro e wZ ⟨rfl, hbZ⟩
                have HBZ := Aside0.mk (HB.out.trans (hbZ.mono hBz))
                clear hbZ
                go_wp2
                go_ret
                exact ⟨rfl, HBZ.out⟩
end Go.Proofs.YtilhadckmhphgaaDoor
