/- CellSymmetry: the walk. -/
import Derived.Test.YtilhadckmhphgaaDoorPtKey
import Derived.Test.YtilhadckmhphgaaDoorPSym
import Derived.Test.YtilhadckmhphgaaDoorXSome3
import Derived.Test.YtilhadckmhphgaaDoorXAwake3
import Derived.Test.YtilhadckmhphgaaDoorHEq
import Derived.Test.YtilhadckmhphgaaDoorHhoneycomblaw03Lattice
import Derived.Test.YtilhadckmhphgaaDoorHaxisOperatorThen
import Derived.Test.YtilhadckmhphgaaDoorHaxisOperatorBack
import Derived.Carry
import Derived.BigRegion
import Derived.Deep.RegionHeld3
namespace Go.Proofs.YtilhadckmhphgaaDoor
open Go.RowKit Go.Proofs.YtilhadckmhphgaaDoorW.PrintWords Go.Proofs.YtilhadckmhphgaaDoorW.PrintLast Go.Proofs.YtilhadckmhphgaaDoorW.PrintMore
open H
open Go.RowKit
set_option linter.unusedSimpArgs false

theorem ccWide : (match Tryd.prog.underlying 31 with | some (.array _ _) | some (.struct _) => true | _ => false) = true := by rw [Tryd.underlying31]
theorem ccLaw : Go.WideMaps.KeyLaw Tryd.prog 31 := deep_law_laid ptLaidOut (m := 3) (by omega) (of_decide_eq_true (by kernel_rfl)) (by kernel_rfl) ccWide
theorem ccKeyed : Go.Maps.Keyed Tryd.prog 31 := Go.Maps.Keyed.of_law ccLaw
theorem ccCells : Tryd.prog.cellsOf 31 = 3 := by kernel_rfl
theorem intCells : Tryd.prog.cellsOf 3 = 1 := by kernel_rfl
theorem ccFormed (a b c : Value) : (Value.agg #[a, b, c]).formed Tryd.prog 31 = true := by simp [Value.formed, Tryd.underlying31, ccCells]
theorem lits_int (n : Nat) (a : Int) (h : -9223372036854775808 ≤ a) (h' : a ≤ 9223372036854775807) : Tryd.prog.keyLits (n + 1) 3 [.int .i64 a] = some [.int .i64 a] := by
  simp [Program.keyLits, Tryd.underlying3, i64wf a h h']
theorem lits_cc (n : Nat) (a b c : Int) (ha : -9223372036854775808 ≤ a) (ha' : a ≤ 9223372036854775807) (hb : -9223372036854775808 ≤ b) (hb' : b ≤ 9223372036854775807) (hc : -9223372036854775808 ≤ c) (hc' : c ≤ 9223372036854775807) :
    Tryd.prog.keyLits (n + 3) 31 [.int .i64 a, .int .i64 b, .int .i64 c] = some [.int .i64 a, .int .i64 b, .int .i64 c] := by
  have h1 := lits_pt n a b ha ha' hb hb'
  have h2 := lits_int (n + 1) c hc hc'
  unfold Program.keyLits
  simp [Tryd.underlying31, ccCells, ptCells, intCells, h1, h2]
theorem ccKey (a b c : Int) (ha : -9223372036854775808 ≤ a) (ha' : a ≤ 9223372036854775807) (hb : -9223372036854775808 ≤ b) (hb' : b ≤ 9223372036854775807) (hc : -9223372036854775808 ≤ c) (hc' : c ≤ 9223372036854775807) :
    ∃ kl, keyOf Tryd.prog 31 (.agg #[.int .i64 a, .int .i64 b, .int .i64 c]) = some kl := by
  have hk : Tryd.prog.keyType 31 = true := by kernel_rfl
  have hs : ∃ n, Tryd.prog.types.size + 1 = n + 3 := ⟨Tryd.prog.types.size - 2, by have : 2 ≤ Tryd.prog.types.size := of_decide_eq_true (by kernel_rfl); omega⟩
  obtain ⟨n, hn⟩ := hs
  unfold keyOf
  simp only [Tryd.underlying31]
  rw [if_pos (by rw [hk, ccFormed]; rfl), hn]
  exact ⟨_, by rw [show (Value.agg #[Value.int .i64 a, Value.int .i64 b, Value.int .i64 c]).cells.toList = [.int .i64 a, .int .i64 b, .int .i64 c] from rfl, lits_cc n a b c ha ha' hb hb' hc hc']; rfl⟩
theorem on_ok (l o : Int) (x : CL) (hl : 1 ≤ l) (hl' : l ≤ 3) (h0 : 0 ≤ o) (h1 : o < 12) (hh : halfOk l x) (hx : -1000000 ≤ x.f0.f0) (hx' : x.f0.f0 ≤ 1000000) (hy : -1000000 ≤ x.f0.f1) (hy' : x.f0.f1 ≤ 1000000) :
    XOn.f l o x.f0.f0 x.f0.f1 x.f1 = some ((onC l o x).f0.f0, (onC l o x).f0.f1, (onC l o x).f1, none) := by
  have hg : goodP x.f0.f0 x.f0.f1 := ⟨by omega, by omega, by omega, by omega⟩
  have hb := onC_bd l o x 1000000 h0 h1 hh hx hx' hy hy'
  have hg2 : goodP (onC l o x).f0.f0 (onC l o x).f0.f1 := ⟨by omega, by omega, by omega, by omega⟩
  have hm : mk x.f0.f0 x.f0.f1 x.f1 = x := rfl
  unfold XOn.f onR
  rw [hm, checkR_good hl hl' hh hg]
  simp only [if_pos (And.intro h0 h1), if_pos hg2]
theorem then_tab : ∀ o p : Fin 12, axis_Operator_Then.f (o.1 : Int) (p.1 : Int) = some (thenR (o.1 : Int) (p.1 : Int)) := by decide +kernel
theorem back_tab : ∀ o : Fin 12, axis_Operator_Back.f (o.1 : Int) = some (backR (o.1 : Int)) := by decide +kernel
theorem offs_nodup (l h : Int) (hl : 1 ≤ l) (hl' : l ≤ 3) (h0 : h = 0 ∨ h = 1) (h1 : l = 1 → h = 0) : (offs l h).Nodup ∧ (offs l h).length ≤ 12 ∧ ∀ d ∈ offs l h, halfOk l d ∧ -2 ≤ d.f0.f0 ∧ d.f0.f0 ≤ 2 ∧ -2 ≤ d.f0.f1 ∧ d.f0.f1 ≤ 2 := by
  have key : ∀ l h : Int, (l = 1 ∧ h = 0) ∨ (l = 2 ∧ h = 0) ∨ (l = 2 ∧ h = 1) ∨ (l = 3 ∧ h = 0) ∨ (l = 3 ∧ h = 1) → (offs l h).Nodup ∧ (offs l h).length ≤ 12 ∧ ∀ d ∈ offs l h, ((d.f1 = 0 ∨ d.f1 = 1) ∧ (l = 1 → d.f1 = 0)) ∧ -2 ≤ d.f0.f0 ∧ d.f0.f0 ≤ 2 ∧ -2 ≤ d.f0.f1 ∧ d.f0.f1 ≤ 2 := by
    rintro l h (⟨rfl, rfl⟩ | ⟨rfl, rfl⟩ | ⟨rfl, rfl⟩ | ⟨rfl, rfl⟩ | ⟨rfl, rfl⟩) <;> decide +kernel
  exact key l h (by omega)
/-- what is seen so far -/
def seenL (l o : Int) (ds : List CL) : List (Value × Value) := ds.map fun d => (.agg #[.int .i64 (onC l o d).f0.f0, .int .i64 (onC l o d).f0.f1, .int .i64 (onC l o d).f1], .int .i64 1)
theorem zeroInt (w : World) : (zeroValue 3).run Tryd.prog w = .ok (.int .i64 0) w := by kernel_rfl
/-- the cells of two blocks, and what a look-up gives -/
abbrev SY (gm g h : Nat) (x d : CL) (W : World) : Prop :=
  W.cell? ⟨g, 0, none⟩ = some (.int .i64 x.f0.f0) ∧ W.cell? ⟨g, 1, none⟩ = some (.int .i64 x.f0.f1) ∧ W.cell? ⟨g, 2, none⟩ = some (.int .i64 x.f1) ∧
  W.cell? ⟨h, 0, none⟩ = some (.int .i64 d.f0.f0) ∧ W.cell? ⟨h, 1, none⟩ = some (.int .i64 d.f0.f1) ∧ W.cell? ⟨h, 2, none⟩ = some (.int .i64 d.f1) ∧
  (Instr.lookup 42 (.map (some gm)) (.agg #[.int .i64 x.f0.f0, .int .i64 x.f0.f1, .int .i64 x.f1]) false).run Tryd.prog W = .ok (.int .i64 1) W
theorem SY.mk' {gm g h : Nat} {x d : CL} {l : List (Value × Value)} {W : World} (hg : W.heap[g]? = some (.cells #[.int .i64 x.f0.f0, .int .i64 x.f0.f1, .int .i64 x.f1] 31 (0, 0))) (hh : W.heap[h]? = some (.cells #[.int .i64 d.f0.f0, .int .i64 d.f0.f1, .int .i64 d.f1] 31 (0, 0)))
    (hM : MapAt Tryd.prog 31 W gm l) {kl : Lit} (hk : keyOf Tryd.prog 31 (.agg #[.int .i64 x.f0.f0, .int .i64 x.f0.f1, .int .i64 x.f1]) = some kl) {j : Nat} (hj : l[j]? = some (.agg #[.int .i64 x.f0.f0, .int .i64 x.f0.f1, .int .i64 x.f1], .int .i64 1)) : SY gm g h x d W :=
  ⟨blk_cell hg 0, blk_cell hg 1, blk_cell hg 2, blk_cell hh 0, blk_cell hh 1, blk_cell hh 2, hM.look_some false ccKeyed Tryd.underlying42 hk hj⟩
abbrev S3c (g : Nat) (x : CL) (W : World) : Prop := W.cell? ⟨g, 0, none⟩ = some (.int .i64 x.f0.f0) ∧ W.cell? ⟨g, 1, none⟩ = some (.int .i64 x.f0.f1) ∧ W.cell? ⟨g, 2, none⟩ = some (.int .i64 x.f1)
theorem S3c.below {g : Nat} {x : CL} {W W1 : World} (h : S3c g x W) (hb : Below W.heap.size W W1) : S3c g x W1 := ⟨pw_cell_below hb h.1, pw_cell_below hb h.2.1, pw_cell_below hb h.2.2⟩
theorem S3c.alloc {g : Nat} {x : CL} {W : World} (h : S3c g x W) (o : Obj) : S3c g x (W.alloc o) := h.below (below_alloc (Below.refl _ _) o)
abbrev ZB : Obj := .cells #[.int .i64 0, .int .i64 0, .int .i64 0] 31 (0, 0)
theorem S3c.put {g g' : Nat} {x : CL} {W : World} (h : S3c g x W) (hne : g ≠ g') (u v z : Value) : S3c g x (((W.setCell ⟨g', 0, none⟩ u).setCell ⟨g', 1, none⟩ v).setCell ⟨g', 2, none⟩ z) := by
  obtain ⟨h0, h1, h2⟩ := h
  have key : ∀ (W : World) (o i : Nat) (u c : Value), W.cell? ⟨g, o, none⟩ = some c → (W.setCell ⟨g', i, none⟩ u).cell? ⟨g, o, none⟩ = some c := fun W o i u c hc => by
    rw [World.cell?_setCell_far W ⟨g', i, none⟩ ⟨g, o, none⟩ u (fun e => hne e.symm)]
    exact hc
  exact ⟨key _ _ _ _ _ (key _ _ _ _ _ (key _ _ _ _ _ h0)), key _ _ _ _ _ (key _ _ _ _ _ (key _ _ _ _ _ h1)), key _ _ _ _ _ (key _ _ _ _ _ (key _ _ _ _ _ h2))⟩
abbrev CB (x : CL) : Obj := .cells #[.int .i64 x.f0.f0, .int .i64 x.f0.f1, .int .i64 x.f1] 31 (0, 0)
abbrev SZ (gm g h : Nat) (x d : CL) (B0 W : World) : Prop :=
  W.cell? ⟨g, 0, none⟩ = some (.int .i64 x.f0.f0) ∧ W.cell? ⟨g, 1, none⟩ = some (.int .i64 x.f0.f1) ∧ W.cell? ⟨g, 2, none⟩ = some (.int .i64 x.f1) ∧
  W.cell? ⟨h, 0, none⟩ = some (.int .i64 d.f0.f0) ∧ W.cell? ⟨h, 1, none⟩ = some (.int .i64 d.f0.f1) ∧ W.cell? ⟨h, 2, none⟩ = some (.int .i64 d.f1) ∧
  (Instr.lookup 42 (.map (some gm)) (.agg #[.int .i64 x.f0.f0, .int .i64 x.f0.f1, .int .i64 x.f1]) false).run Tryd.prog W = .ok (.int .i64 1) W ∧ Below B0.heap.size B0 W
theorem SZ.start {gm g h : Nat} {x d : CL} {l : List (Value × Value)} {B0 : World} (hg : B0.heap[g]? = some (.cells #[.int .i64 x.f0.f0, .int .i64 x.f0.f1, .int .i64 x.f1] 31 (0, 0))) (hh : B0.heap[h]? = some (.cells #[.int .i64 d.f0.f0, .int .i64 d.f0.f1, .int .i64 d.f1] 31 (0, 0)))
    (hM : MapAt Tryd.prog 31 B0 gm l) {kl : Lit} (hk : keyOf Tryd.prog 31 (.agg #[.int .i64 x.f0.f0, .int .i64 x.f0.f1, .int .i64 x.f1]) = some kl) {j : Nat} (hj : l[j]? = some (.agg #[.int .i64 x.f0.f0, .int .i64 x.f0.f1, .int .i64 x.f1], .int .i64 1)) : SZ gm g h x d B0 B0 :=
  ⟨blk_cell hg 0, blk_cell hg 1, blk_cell hg 2, blk_cell hh 0, blk_cell hh 1, blk_cell hh 2, hM.look_some false ccKeyed Tryd.underlying42 hk hj, Below.refl _ _⟩
theorem SZ.next {gm g h : Nat} {x d : CL} {l : List (Value × Value)} {B0 : World} (hg : B0.heap[g]? = some (.cells #[.int .i64 x.f0.f0, .int .i64 x.f0.f1, .int .i64 x.f1] 31 (0, 0))) (hh : B0.heap[h]? = some (.cells #[.int .i64 d.f0.f0, .int .i64 d.f0.f1, .int .i64 d.f1] 31 (0, 0)))
    (hM : MapAt Tryd.prog 31 B0 gm l) {kl : Lit} (hk : keyOf Tryd.prog 31 (.agg #[.int .i64 x.f0.f0, .int .i64 x.f0.f1, .int .i64 x.f1]) = some kl) {j : Nat} (hj : l[j]? = some (.agg #[.int .i64 x.f0.f0, .int .i64 x.f0.f1, .int .i64 x.f1], .int .i64 1))
    {W W' : World} (hS : SZ gm g h x d B0 W) (hb : Below W.heap.size W W') : SZ gm g h x d B0 W' := by
  have hB : Below B0.heap.size B0 W' := hS.2.2.2.2.2.2.2.trans (hb.mono hS.2.2.2.2.2.2.2.size)
  have hg := blk_below hg hB
  have hh := blk_below hh hB
  exact ⟨blk_cell hg 0, blk_cell hg 1, blk_cell hg 2, blk_cell hh 0, blk_cell hh 1, blk_cell hh 2, (hM.below hB).look_some false ccKeyed Tryd.underlying42 hk hj, hB⟩
theorem agg_ne {x y : CL} (h : x ≠ y) : (Value.agg #[.int .i64 x.f0.f0, .int .i64 x.f0.f1, .int .i64 x.f1]) ≠ (Value.agg #[.int .i64 y.f0.f0, .int .i64 y.f0.f1, .int .i64 y.f1]) := by
  intro e
  simp at e
  obtain ⟨⟨a, b⟩, c⟩ := x
  obtain ⟨⟨a', b'⟩, c'⟩ := y
  obtain ⟨rfl, rfl, rfl⟩ := e
  exact h rfl
theorem seen_new {l o : Int} {Ls : List CL} (hn : Ls.Nodup) (hh : ∀ s ∈ Ls, halfOk l s) (h0 : 0 ≤ o) (h1 : o < 12) (k : Nat) (hk : k < Ls.length) :
    ∀ q ∈ seenL l o (Ls.take k), q.1 ≠ .agg #[.int .i64 (onC l o Ls[k]).f0.f0, .int .i64 (onC l o Ls[k]).f0.f1, .int .i64 (onC l o Ls[k]).f1] := by
  intro q hq
  obtain ⟨s, hs, rfl⟩ := List.mem_map.1 hq
  obtain ⟨i, hi, his⟩ := List.mem_iff_getElem.1 hs
  rw [List.getElem_take] at his
  have hik : i < k := by simp at hi; omega
  refine agg_ne fun e => ?_
  have hsm : s ∈ Ls := List.mem_of_mem_take hs
  have := onC_inj l o s Ls[k] h0 h1 (hh s hsm) (hh _ (List.getElem_mem hk)) e
  rw [← his] at this
  have := nodup_idx hn (List.getElem?_eq_getElem (by omega : i < Ls.length)) ((List.getElem?_eq_getElem hk).trans (congrArg some this.symm))
  omega
theorem seen_next {l o : Int} {Ls : List CL} (k : Nat) (hk : k < Ls.length) : seenL l o (Ls.take (k + 1)) = seenL l o (Ls.take k) ++ [(.agg #[.int .i64 (onC l o Ls[k]).f0.f0, .int .i64 (onC l o Ls[k]).f0.f1, .int .i64 (onC l o Ls[k]).f1], .int .i64 1)] := by
  unfold seenL
  rw [List.take_add_one, List.getElem?_eq_getElem hk, List.map_append]
  rfl
theorem seen_len {l o : Int} {Ls : List CL} (k : Nat) (hk : k ≤ Ls.length) : (seenL l o (Ls.take k)).length = k := by
  unfold seenL
  rw [List.length_map, List.length_take]
  omega
theorem fin_put {W0 W : World} {gN : Nat} (hB : Below W0.heap.size W0 W) (hN : W.heap[gN]? = some ZB) (hge : W0.heap.size ≤ gN) (x : CL) {W' : World}
    (hW : W' = ((W.setCell ⟨gN, 0, none⟩ (.int .i64 x.f0.f0)).setCell ⟨gN, 1, none⟩ (.int .i64 x.f0.f1)).setCell ⟨gN, 2, none⟩ (.int .i64 x.f1)) : W'.heap[gN]? = some (CB x) ∧ Below W0.heap.size W0 W' ∧ ∀ (g : Nat) (y : CL), W0.heap[g]? = some (CB y) → W'.heap[g]? = some (CB y) := by
  subst hW
  refine ⟨blk_set (blk_set (blk_set hN 0 _) 1 _) 2 _, Below.setCell (p := ⟨gN, 2, none⟩) (Below.setCell (p := ⟨gN, 1, none⟩) (Below.setCell (p := ⟨gN, 0, none⟩) hB hge _) hge _) hge _, fun g y hg => ?_⟩
  have hne : g ≠ gN := by have := blk_lt hg; omega
  exact blk_far (blk_far (blk_far (blk_below hg hB) (p := ⟨gN, 0, none⟩) hne _) (p := ⟨gN, 1, none⟩) hne _) (p := ⟨gN, 2, none⟩) hne _
theorem fin_alloc {W0 W : World} (hB : Below W0.heap.size W0 W) (x : CL) {W' : World} (hW : W' = W.alloc (CB x)) : W'.heap[W.heap.size]? = some (CB x) ∧ Below W0.heap.size W0 W' ∧ ∀ (g : Nat) (y : CL), W0.heap[g]? = some (CB y) → W'.heap[g]? = some (CB y) := by
  subst hW
  exact ⟨blk_new _ _, below_alloc2 hB hB.size _, fun g y hg => blk_alloc (blk_below hg hB) _⟩
theorem besideOk (l : Int) (x : CL) (hl : 1 ≤ l) (hl' : l ≤ 3) (hh : halfOk l x) (hx : -1000000 ≤ x.f0.f0) (hx' : x.f0.f0 ≤ 1000000) (hy : -1000000 ≤ x.f0.f1) (hy' : x.f0.f1 ≤ 1000000) :
    XBeside.f l x.f0.f0 x.f0.f1 x.f1 = some ((offs l x.f1).map (sh x.f0.f0 x.f0.f1), none) := by
  have hg : goodP x.f0.f0 x.f0.f1 := ⟨by omega, by omega, by omega, by omega⟩
  obtain ⟨_, _, ho⟩ := offs_nodup l x.f1 hl hl' hh.1 hh.2
  unfold XBeside.f
  rw [checkR_good hl hl' hh hg]
  simp only
  rw [if_pos]
  rw [List.all_eq_true]
  intro y hy2
  obtain ⟨d, hd, rfl⟩ := List.mem_map.1 hy2
  obtain ⟨_, h1, h2, h3, h4⟩ := ho d hd
  exact decide_eq_true ⟨by simp only [sh]; omega, by simp only [sh]; omega, by simp only [sh]; omega, by simp only [sh]; omega⟩
set_option maxRecDepth 100000 in
set_option maxHeartbeats 8000000 in
theorem symmetry_any (n a b ra rb rh : Int) (w : World) (hG : Six w) :
    Calls Tryd.prog 3 #[.int .i64 n, .int .i64 a, .int .i64 b, .agg #[.int .i64 ra, .int .i64 rb, .int .i64 rh]] w fun e w' => e = .returned (.bool true) ∧ Below w.heap.size w w' := by
  obtain ⟨l, hl1, hl3, hL⟩ : ∃ l : Int, 1 ≤ l ∧ l ≤ 3 ∧ honeycomblaw03_Lattice.f n = some l := by
    refine ⟨1 + n % 256 % 3, by omega, by omega, ?_⟩
    unfold honeycomblaw03_Lattice.f
    rw [and_255, Int.tmod_eq_emod_of_nonneg (by omega), w64i _ (by omega) (by omega)]
  obtain ⟨o, ho, hO⟩ : ∃ o : Nat, o < 12 ∧ Int.tmod (Go.bits .and .i64 a 255) 12 = o := by
    rw [and_255, Int.tmod_eq_emod_of_nonneg (by omega)]
    exact ⟨(a % 256 % 12).toNat, by omega, by omega⟩
  obtain ⟨p, hp, hP⟩ : ∃ p : Nat, p < 12 ∧ Int.tmod (Go.bits .and .i64 b 255) 12 = p := by
    rw [and_255, Int.tmod_eq_emod_of_nonneg (by omega)]
    exact ⟨(b % 256 % 12).toNat, by omega, by omega⟩
  obtain ⟨x, hS, hxh, x1, x2, x3, x4⟩ : ∃ x : CL, XSome3.f l ra rb rh = some (x.f0.f0, x.f0.f1, x.f1) ∧ halfOk l x ∧ -100 ≤ x.f0.f0 ∧ x.f0.f0 ≤ 100 ∧ -100 ≤ x.f0.f1 ∧ x.f0.f1 ≤ 100 := by
    have h1 := tmod_range ra 100 (by omega)
    have h2 := tmod_range rb 100 (by omega)
    refine ⟨⟨⟨ra.tmod 100, rb.tmod 100⟩, if l = 1 then 0 else rh % 2⟩, rfl, ⟨?_, ?_⟩, by show -100 ≤ ra.tmod 100; omega, by show ra.tmod 100 ≤ 100; omega, by show -100 ≤ rb.tmod 100; omega, by show rb.tmod 100 ≤ 100; omega⟩
    · show (if l = 1 then 0 else rh % 2) = 0 ∨ (if l = 1 then 0 else rh % 2) = 1
      split <;> omega
    · intro h
      show (if l = 1 then 0 else rh % 2) = 0
      rw [if_pos h]
  obtain ⟨D, hD⟩ : ∃ D, D = onC l o x := ⟨_, rfl⟩
  obtain ⟨X, hX⟩ : ∃ X, X = onC l p D := ⟨_, rfl⟩
  have hDh : halfOk l D := by rw [hD]; exact onC_half l o x (by omega) (by omega) hxh
  have hDb := onC_bd l o x 100 (by omega) (by omega) hxh x1 x2 x3 x4
  rw [← hD] at hDb
  obtain ⟨⟨d1, d2⟩, d3, d4⟩ := hDb
  have f1 := on_ok l o x hl1 hl3 (by omega) (by omega) hxh (by omega) (by omega) (by omega) (by omega)
  rw [← hD] at f1
  have f2 := on_ok l p D hl1 hl3 (by omega) (by omega) hDh (by omega) (by omega) (by omega) (by omega)
  rw [← hX] at f2
  have hth := thenR_rng o p (by omega) (by omega) (by omega) (by omega)
  have hbk := backR_rng o (by omega) (by omega)
  have f3 := on_ok l (thenR o p) x hl1 hl3 hth.1 hth.2 hxh (by omega) (by omega) (by omega) (by omega)
  rw [← onC_then l o p x (by omega) (by omega) (by omega) (by omega) hxh, ← hD, ← hX] at f3
  have f4 := on_ok l (backR o) D hl1 hl3 hbk.1 hbk.2 hDh (by omega) (by omega) (by omega) (by omega)
  rw [hD, onC_back l o x (by omega) (by omega) hxh, ← hD] at f4
  have c1 := fun W => XOn.calls l o x.f0.f0 x.f0.f1 x.f1 _ _ _ _ W f1
  have c2 := fun W => XOn.calls l p D.f0.f0 D.f0.f1 D.f1 _ _ _ _ W f2
  have c3 := fun W => XOn.calls l (thenR o p) x.f0.f0 x.f0.f1 x.f1 _ _ _ _ W f3
  have c4 := fun W => XOn.calls l (backR o) D.f0.f0 D.f0.f1 D.f1 _ _ _ _ W f4
  have cth := fun W => axis_Operator_Then.calls o p (thenR o p) W (then_tab ⟨o, ho⟩ ⟨p, hp⟩)
  have cbk := fun W => axis_Operator_Back.calls o (backR o) W (back_tab ⟨o, ho⟩)
  simp only [errW_none] at c1 c2 c3 c4
  obtain ⟨TH, hTH⟩ : ∃ z, z = thenR o p := ⟨_, rfl⟩
  obtain ⟨BK, hBK⟩ : ∃ z, z = backR o := ⟨_, rfl⟩
  rw [← hTH] at c3 cth
  rw [← hBK] at c4 cbk
  have HD := Aside0.mk hD
  have HG := Aside0.mk hG
  clear hD hX hG f1 f2 f3 f4 hth hbk hTH hBK
  go_enter Tryd.func3, Tryd.ntmps3
  go_wp2_with fail
  obtain ⟨w1, hw1⟩ : ∃ W, W = w.alloc (.cells #[.int .i64 ra, .int .i64 rb, .int .i64 rh] 23) := ⟨_, rfl⟩
  have r0 : w1.heap[w.heap.size]? = some (.cells #[.int .i64 ra, .int .i64 rb, .int .i64 rh] 23 (0, 0)) := by rw [hw1]; exact blk_new _ _
  have hB1 : Below w.heap.size w w1 := by rw [hw1]; exact below_alloc (Below.refl _ _) _
  rw [← hw1]
  have HB1 := Aside0.mk hB1
  clear hw1 hB1
  refine (XAwake3.calls true w1 (HG.out.below HB1.out) rfl).mono ?_
  rintro e w2 ⟨rfl, hb2⟩
  have r0 := blk_below r0 hb2
  have HB2 := Aside0.mk (HB1.out.trans (hb2.mono HB1.out.size))
  clear hb2
  go_wp2_with fail
  refine (honeycomblaw03_Lattice.calls n l _ hL).mono ?_
  rintro e w3 ⟨rfl, hd3⟩
  have r0 := blk_below r0 hd3.below
  have HB3 := Aside0.mk (HB2.out.trans (hd3.below.mono HB2.out.size))
  clear hd3
  have q0 := blk_cell r0 0
  have q1 := blk_cell r0 1
  have q2 := blk_cell r0 2
  simp only [List.getElem?_toArray, List.getElem?_cons_zero, List.getElem?_cons_succ] at q0 q1 q2
  go_wp2_with fail
  refine (XSome3.calls l ra rb rh _ _ _ _ hS).mono ?_
  rintro e w4 ⟨rfl, hb4⟩
  have HB4 := Aside0.mk (HB3.out.trans (hb4.mono HB3.out.size))
  clear q0 q1 q2 hb4 r0
  go_upto_region 6 with (fail)
  obtain ⟨w5, hw5⟩ : ∃ W, W = w4.alloc (.cells #[.int .i64 x.f0.f0, .int .i64 x.f0.f1, .int .i64 x.f1] 31) := ⟨_, rfl⟩
  have k2 : w5.heap[w4.heap.size]? = some (CB x) := by rw [hw5]; exact blk_new _ _
  have hB5 : Below w4.heap.size w4 w5 := by rw [hw5]; exact below_alloc (Below.refl _ _) _
  rw [← hw5]
  have HB5 := Aside0.mk (HB4.out.trans (hB5.mono HB4.out.size))
  obtain ⟨g2, hg2⟩ : ∃ g, g = w4.heap.size := ⟨_, rfl⟩
  rw [← hg2] at k2 ⊢
  have hwg2 : w.heap.size ≤ g2 := by have := HB4.out.size; omega
  clear hw5 hB5 hg2
  have q0 := blk_cell k2 0
  have q1 := blk_cell k2 1
  have q2 := blk_cell k2 2
  simp only [List.getElem?_toArray, List.getElem?_cons_zero, List.getElem?_cons_succ] at q0 q1 q2
  go_wp2_with fail
  refine (c1 _).mono ?_
  rintro e w6 ⟨rfl, hb6⟩
  have k2 := blk_below k2 hb6
  have HB6 := Aside0.mk (HB5.out.trans (hb6.mono HB5.out.size))
  clear hb6 q0 q1 q2
  go_upto_region 7 with (fail)
  obtain ⟨w7, hw7⟩ : ∃ W, W = w6.alloc (.cells #[.int .i64 D.f0.f0, .int .i64 D.f0.f1, .int .i64 D.f1] 31) := ⟨_, rfl⟩
  have k3 : w7.heap[w6.heap.size]? = some (CB D) := by rw [hw7]; exact blk_new _ _
  have hB7 : Below w6.heap.size w6 w7 := by rw [hw7]; exact below_alloc (Below.refl _ _) _
  rw [← hw7]
  have k2 := blk_below k2 hB7
  have HB7 := Aside0.mk (HB6.out.trans (hB7.mono HB6.out.size))
  obtain ⟨g3, hg3⟩ : ∃ g, g = w6.heap.size := ⟨_, rfl⟩
  rw [← hg3] at k3 ⊢
  clear hw7 hB7 hg3
  have q0 := blk_cell k3 0
  have q1 := blk_cell k3 1
  have q2 := blk_cell k3 2
  simp only [List.getElem?_toArray, List.getElem?_cons_zero, List.getElem?_cons_succ] at q0 q1 q2
  go_wp2_with fail
  refine (c2 _).mono ?_
  rintro e w8 ⟨rfl, hb8⟩
  have k2 := blk_below k2 hb8
  have k3 := blk_below k3 hb8
  have HB8 := Aside0.mk (HB7.out.trans (hb8.mono HB7.out.size))
  clear hb8 q0 q1 q2
  go_upto_region 8 with (fail)
  obtain ⟨w9, hw9⟩ : ∃ W, W = w8.alloc (.cells #[.int .i64 X.f0.f0, .int .i64 X.f0.f1, .int .i64 X.f1] 31) := ⟨_, rfl⟩
  have k5 : w9.heap[w8.heap.size]? = some (CB X) := by rw [hw9]; exact blk_new _ _
  have hB9 : Below w8.heap.size w8 w9 := by rw [hw9]; exact below_alloc (Below.refl _ _) _
  rw [← hw9]
  have k2 := blk_below k2 hB9
  have k3 := blk_below k3 hB9
  have HB9 := Aside0.mk (HB8.out.trans (hB9.mono HB8.out.size))
  obtain ⟨g5, hg5⟩ : ∃ g, g = w8.heap.size := ⟨_, rfl⟩
  rw [← hg5] at k5 ⊢
  clear hw9 hB9 hg5
  have K2 := Aside0.mk k2
  have K3 := Aside0.mk k3
  have K5 := Aside0.mk k5
  have hS : S3c g2 x w9.drew := ⟨blk_cell k2 0, blk_cell k2 1, blk_cell k2 2⟩
  have l2 := blk_lt k2
  have l3 := blk_lt k3
  have l5 := blk_lt k5
  clear k2 k3 k5
  have hz9 := HB9.out.size
  go_cut [17, 18] (fun v17 v18 wc => ∃ g7 : Nat, v17 = .pointer (some ⟨g7, 0, none⟩) ∧ v18 = .nilIface ∧ Aside0 (wc.heap[g7]? = some (CB X)) ∧ Aside0 (wc.heap[g2]? = some (CB x)) ∧ Aside0 (wc.heap[g3]? = some (CB D)) ∧ Aside0 (wc.heap[g5]? = some (CB X)) ∧ Aside0 (Below w.heap.size w wc))
  case first =>
    go_region_held3 (fun W => W.cell? ⟨g2, 0, none⟩ = some (.int .i64 x.f0.f0) ∧ W.cell? ⟨g2, 1, none⟩ = some (.int .i64 x.f0.f1) ∧ W.cell? ⟨g2, 2, none⟩ = some (.int .i64 x.f1))
      (first | assumption | exact S3c.alloc (by assumption) _ | exact S3c.put (by assumption) (by omega) _ _ _)
      (first | (go_at_call 9; refine (cth _).mono ?_; rintro e wA ⟨rfl, hdA⟩
                have hbA := hdA.below
                have hSA := S3c.below (by assumption : S3c g2 x _) hbA
                (try (have kN : wA.heap[w9.heap.size]? = some ZB := blk_below (blk_new w9.drew _) hbA; have n0 := blk_cell kN 0; have n1 := blk_cell kN 1; have n2 := blk_cell kN 2; have nf := blk_frozen kN; simp only [List.getElem?_toArray, List.getElem?_cons_zero, List.getElem?_cons_succ] at n0 n1 n2))
                have HBA := Aside0.mk hbA
                have hzA : w9.heap.size ≤ wA.heap.size := Nat.le_trans (by simp) hbA.size
                clear hdA hbA)
             | (go_at_call 8; refine (c3 _).mono ?_; rintro e wB ⟨rfl, hbB⟩
                have hSB := S3c.below (by assumption : S3c g2 x _) hbB
                (try (have kN := blk_below kN hbB; have n0 := blk_cell kN 0; have n1 := blk_cell kN 1; have n2 := blk_cell kN 2; have nf := blk_frozen kN; simp only [List.getElem?_toArray, List.getElem?_cons_zero, List.getElem?_cons_succ] at n0 n1 n2))
                (try (have kM : wB.heap[wA.heap.size]? = some ZB := blk_below (blk_new wA _) hbB; have m0 := blk_cell kM 0; have m1 := blk_cell kM 1; have m2 := blk_cell kM 2; have mf := blk_frozen kM; simp only [List.getElem?_toArray, List.getElem?_cons_zero, List.getElem?_cons_succ] at m0 m1 m2))
                have HBB := Aside0.mk hbB
                have hzB : wA.heap.size ≤ wB.heap.size := Nat.le_trans (by simp) hbB.size
                clear hbB))
    · have hBd : Below w9.drew.heap.size w9.drew wB := HBA.out.trans (HBB.out.mono HBA.out.size)
      obtain ⟨e1, e2, e3⟩ := fin_alloc hBd X rfl
      have E := Aside0.mk (And.intro e1 (And.intro e2 e3))
      clear e1 e2 e3 hBd
      go_wp2
      go_meet
      case rel => exact ⟨_, rfl, rfl, ⟨E.out.1⟩, ⟨E.out.2.2 _ _ K2.out⟩, ⟨E.out.2.2 _ _ K3.out⟩, ⟨E.out.2.2 _ _ K5.out⟩, ⟨(below_drew HB9.out).trans (E.out.2.1.mono hz9)⟩⟩
    · have hBd : Below w9.drew.heap.size w9.drew wB := (below_alloc2 HBA.out HBA.out.size _).trans (HBB.out.mono (Nat.le_trans HBA.out.size (by simp)))
      obtain ⟨e1, e2, e3⟩ := fin_put hBd kM (by show w9.heap.size ≤ _; omega) X rfl
      have E := Aside0.mk (And.intro e1 (And.intro e2 e3))
      clear e1 e2 e3 hBd kM m0 m1 m2 mf
      go_wp2
      go_meet
      case rel => exact ⟨_, rfl, rfl, ⟨E.out.1⟩, ⟨E.out.2.2 _ _ K2.out⟩, ⟨E.out.2.2 _ _ K3.out⟩, ⟨E.out.2.2 _ _ K5.out⟩, ⟨(below_drew HB9.out).trans (E.out.2.1.mono hz9)⟩⟩
    · have hBd : Below w9.drew.heap.size w9.drew wB := ((below_alloc (Below.refl _ w9.drew) _).trans (HBA.out.mono (by simp))).trans (HBB.out.mono (Nat.le_trans (by show w9.heap.size ≤ wA.heap.size; omega) (Nat.le_refl _)))
      obtain ⟨e1, e2, e3⟩ := fin_put hBd kN (by show w9.heap.size ≤ _; omega) X rfl
      have E := Aside0.mk (And.intro e1 (And.intro e2 e3))
      clear e1 e2 e3 hBd kN n0 n1 n2 nf
      go_wp2
      go_meet
      case rel => exact ⟨_, rfl, rfl, ⟨E.out.1⟩, ⟨E.out.2.2 _ _ K2.out⟩, ⟨E.out.2.2 _ _ K3.out⟩, ⟨E.out.2.2 _ _ K5.out⟩, ⟨(below_drew HB9.out).trans (E.out.2.1.mono hz9)⟩⟩
  case rest =>
  clear hS c3 cth
  obtain ⟨g7, rfl, rfl, K7, K2, K3, K5, HBR⟩ := hcut
  obtain ⟨wR, hwR⟩ : ∃ W, W = wc := ⟨_, rfl⟩
  rw [← hwR] at K7 K2 K3 K5 HBR ⊢
  clear hwR
  have hS : S3c g3 D wR.drew := ⟨blk_cell K3.out 0, blk_cell K3.out 1, blk_cell K3.out 2⟩
  have l2 := blk_lt K2.out
  have l3 := blk_lt K3.out
  have l5 := blk_lt K5.out
  have l7 := blk_lt K7.out
  have hzR := HBR.out.size
  go_upto_region 9 with (fail)
  go_cut [19, 20] (fun v19 v20 wc => ∃ g9 : Nat, v19 = .pointer (some ⟨g9, 0, none⟩) ∧ v20 = .nilIface ∧ Aside0 (wc.heap[g9]? = some (CB x)) ∧ Aside0 (wc.heap[g7]? = some (CB X)) ∧ Aside0 (wc.heap[g2]? = some (CB x)) ∧ Aside0 (wc.heap[g3]? = some (CB D)) ∧ Aside0 (wc.heap[g5]? = some (CB X)) ∧ Aside0 (Below w.heap.size w wc))
  case first =>
    go_region_held3 (fun W => W.cell? ⟨g3, 0, none⟩ = some (.int .i64 D.f0.f0) ∧ W.cell? ⟨g3, 1, none⟩ = some (.int .i64 D.f0.f1) ∧ W.cell? ⟨g3, 2, none⟩ = some (.int .i64 D.f1))
      (first | assumption | exact S3c.alloc (by assumption) _ | exact S3c.put (by assumption) (by omega) _ _ _)
      (first | (go_at_call 10; refine (cbk _).mono ?_; rintro e wA ⟨rfl, hdA⟩
                have hbA := hdA.below
                have hSA := S3c.below (by assumption : S3c g3 D _) hbA
                (try (have kN : wA.heap[wR.heap.size]? = some ZB := blk_below (blk_new wR.drew _) hbA; have n0 := blk_cell kN 0; have n1 := blk_cell kN 1; have n2 := blk_cell kN 2; have nf := blk_frozen kN; simp only [List.getElem?_toArray, List.getElem?_cons_zero, List.getElem?_cons_succ] at n0 n1 n2))
                have HBA := Aside0.mk hbA
                have hzA : wR.heap.size ≤ wA.heap.size := Nat.le_trans (by simp) hbA.size
                clear hdA hbA)
             | (go_at_call 8; refine (c4 _).mono ?_; rintro e wB ⟨rfl, hbB⟩
                have hSB := S3c.below (by assumption : S3c g3 D _) hbB
                (try (have kN := blk_below kN hbB; have n0 := blk_cell kN 0; have n1 := blk_cell kN 1; have n2 := blk_cell kN 2; have nf := blk_frozen kN; simp only [List.getElem?_toArray, List.getElem?_cons_zero, List.getElem?_cons_succ] at n0 n1 n2))
                (try (have kM : wB.heap[wA.heap.size]? = some ZB := blk_below (blk_new wA _) hbB; have m0 := blk_cell kM 0; have m1 := blk_cell kM 1; have m2 := blk_cell kM 2; have mf := blk_frozen kM; simp only [List.getElem?_toArray, List.getElem?_cons_zero, List.getElem?_cons_succ] at m0 m1 m2))
                have HBB := Aside0.mk hbB
                have hzB : wA.heap.size ≤ wB.heap.size := Nat.le_trans (by simp) hbB.size
                clear hbB))
    · have hBd : Below wR.drew.heap.size wR.drew wB := HBA.out.trans (HBB.out.mono HBA.out.size)
      obtain ⟨e1, e2, e3⟩ := fin_alloc hBd x rfl
      have E := Aside0.mk (And.intro e1 (And.intro e2 e3))
      clear e1 e2 e3 hBd
      go_wp2
      go_meet
      case rel => exact ⟨_, rfl, rfl, ⟨E.out.1⟩, ⟨E.out.2.2 _ _ K7.out⟩, ⟨E.out.2.2 _ _ K2.out⟩, ⟨E.out.2.2 _ _ K3.out⟩, ⟨E.out.2.2 _ _ K5.out⟩, ⟨(below_drew HBR.out).trans (E.out.2.1.mono hzR)⟩⟩
    · have hBd : Below wR.drew.heap.size wR.drew wB := (below_alloc2 HBA.out HBA.out.size _).trans (HBB.out.mono (Nat.le_trans HBA.out.size (by simp)))
      obtain ⟨e1, e2, e3⟩ := fin_put hBd kM (by show wR.heap.size ≤ _; omega) x rfl
      have E := Aside0.mk (And.intro e1 (And.intro e2 e3))
      clear e1 e2 e3 hBd kM m0 m1 m2 mf
      go_wp2
      go_meet
      case rel => exact ⟨_, rfl, rfl, ⟨E.out.1⟩, ⟨E.out.2.2 _ _ K7.out⟩, ⟨E.out.2.2 _ _ K2.out⟩, ⟨E.out.2.2 _ _ K3.out⟩, ⟨E.out.2.2 _ _ K5.out⟩, ⟨(below_drew HBR.out).trans (E.out.2.1.mono hzR)⟩⟩
    · have hBd : Below wR.drew.heap.size wR.drew wB := ((below_alloc (Below.refl _ wR.drew) _).trans (HBA.out.mono (by simp))).trans (HBB.out.mono (Nat.le_trans (by show wR.heap.size ≤ wA.heap.size; omega) (Nat.le_refl _)))
      obtain ⟨e1, e2, e3⟩ := fin_put hBd kN (by show wR.heap.size ≤ _; omega) x rfl
      have E := Aside0.mk (And.intro e1 (And.intro e2 e3))
      clear e1 e2 e3 hBd kN n0 n1 n2 nf
      go_wp2
      go_meet
      case rel => exact ⟨_, rfl, rfl, ⟨E.out.1⟩, ⟨E.out.2.2 _ _ K7.out⟩, ⟨E.out.2.2 _ _ K2.out⟩, ⟨E.out.2.2 _ _ K3.out⟩, ⟨E.out.2.2 _ _ K5.out⟩, ⟨(below_drew HBR.out).trans (E.out.2.1.mono hzR)⟩⟩
  case rest =>
  clear hS c4 cbk l2 l3 l5 l7
  obtain ⟨g9, rfl, rfl, K9, K7, K2, K3, K5, HBQ⟩ := hcut
  have fb := besideOk l x hl1 hl3 hxh (by omega) (by omega) (by omega) (by omega)
  obtain ⟨hnd, hlen, hofs⟩ := offs_nodup l x.f1 hl1 hl3 hxh.1 hxh.2
  obtain ⟨Ls, hLs⟩ : ∃ Ls, Ls = (offs l x.f1).map (sh x.f0.f0 x.f0.f1) := ⟨_, rfl⟩
  rw [← hLs] at fb
  have c5 := fun W hW => XBeside.calls l x.f0.f0 x.f0.f1 x.f1 Ls none W hW fb
  simp only [errW_none] at c5
  have hLl : Ls.length ≤ 12 := by rw [hLs, List.length_map]; exact hlen
  have hLn : Ls.Nodup := by
    rw [hLs]
    exact List.Pairwise.map _ (fun a b h e => h (sh_inj _ _ e)) hnd
  have hLe : ∀ s ∈ Ls, halfOk l s ∧ -200 ≤ s.f0.f0 ∧ s.f0.f0 ≤ 200 ∧ -200 ≤ s.f0.f1 ∧ s.f0.f1 ≤ 200 ∧ honeycombref03_Near.f 17 l D.f0.f0 D.f0.f1 D.f1 (onC l o s).f0.f0 (onC l o s).f0.f1 (onC l o s).f1 = some true := by
    intro s hs
    rw [hLs] at hs
    obtain ⟨d, hd, rfl⟩ := List.mem_map.1 hs
    obtain ⟨h1, h2, h3, h4, h5⟩ := hofs d hd
    have hn := near_sym l o x.f0.f0 x.f0.f1 x.f1 d hl1 hl3 (by omega) (by omega) hxh.1 hxh.2 hd 1 (by omega) (by omega) (by omega) (by omega)
    rw [show mk x.f0.f0 x.f0.f1 x.f1 = x from rfl, ← HD.out] at hn
    exact ⟨h1, by simp only [sh]; omega, by simp only [sh]; omega, by simp only [sh]; omega, by simp only [sh]; omega, hn⟩
  have HLN := Aside0.mk hLn
  have HLE := Aside0.mk hLe
  clear hLs fb hnd hlen hofs hLn hLe
  have q0 := blk_cell K2.out 0
  have q1 := blk_cell K2.out 1
  have q2 := blk_cell K2.out 2
  simp only [List.getElem?_toArray, List.getElem?_cons_zero, List.getElem?_cons_succ] at q0 q1 q2
  have HC5 := Aside0.mk c5
  clear c5
  go_wp2_with fail
  refine (HC5.out _ (HG.out.below HBQ.out)).mono ?_
  rintro e wE ⟨v, rfl, hR, hbE⟩
  obtain ⟨A, cA, rfl, hlA, hC⟩ := Kd.R_reads hR
  clear q0 q1 q2 hR HC5
  have k2 := blk_below K2.out hbE
  have k3 := blk_below K3.out hbE
  have k5 := blk_below K5.out hbE
  have k7 := blk_below K7.out hbE
  have k9 := blk_below K9.out hbE
  have hQz := HBQ.out.size
  have HBE := Aside0.mk (HBQ.out.trans (hbE.mono hQz))
  clear hbE K2 K5 K7 K9
  have q0 := blk_cell k5 0
  have q1 := blk_cell k5 1
  have q2 := blk_cell k5 2
  have u0 := blk_cell k7 0
  have u1 := blk_cell k7 1
  have u2 := blk_cell k7 2
  have y0 := blk_cell k9 0
  have y1 := blk_cell k9 1
  have y2 := blk_cell k9 2
  have z0 := blk_cell k2 0
  have z1 := blk_cell k2 1
  have z2 := blk_cell k2 2
  simp only [List.getElem?_toArray, List.getElem?_cons_zero, List.getElem?_cons_succ] at q0 q1 q2 u0 u1 u2 y0 y1 y2 z0 z1 z2
  clear k2 k5 k7 k9
  have hmm := @run_makeMap Tryd.prog
  have HCA := Aside0.mk hC
  have K3 := Aside0.mk k3
  clear hC k3
  go_wp2_with fail
  clear hmm q0 q1 q2 u0 u1 u2 y0 y1 y2 z0 z1 z2
  obtain ⟨wM, hwM⟩ : ∃ W, W = wE.alloc (.map #[] 0) := ⟨_, rfl⟩
  have hM : MapAt Tryd.prog 31 wM wE.heap.size [] := by rw [hwM]; exact MapAt_made _ _ _
  have hBM : Below wE.heap.size wE wM := by rw [hwM]; exact below_alloc (Below.refl _ _) _
  rw [← hwM]
  have K3E := K3
  have HCE := HCA
  have hEz := HBE.out.size
  obtain ⟨gm, hgm⟩ : ∃ g, g = wE.heap.size := ⟨_, rfl⟩
  rw [← hgm] at hM ⊢
  have hgz : w.heap.size ≤ gm := by omega
  have l3 := blk_lt K3E.out
  have hne3 : g3 ≠ gm := by omega
  clear hwM K3 HCA
  have HGM := Aside0.mk hgm
  have hBM0 : Below gm wE wM := HGM.out ▸ hBM
  clear hgm hBM
  go_loopw [109] (fun iv wr => ∃ k : Nat, k ≤ Ls.length ∧ iv = .int .i64 k ∧ MapAt Tryd.prog 31 wr gm (seenL l o (Ls.take k)) ∧ Below gm wE wr) (fun iv _ => Ls.length - (intOf iv).toNat)
  case atStart => exact ⟨0, by omega, rfl, hM, hBM0⟩
  case round =>
    obtain ⟨k, hk, rfl, hM, hB⟩ := hrel
    have hBE : Below wE.heap.size wE wr := HGM.out ▸ hB
    have M := Aside0.mk hM
    have K3 := Aside0.mk (blk_below K3E.out hBE)
    have HC := Aside0.mk (Kd.C_below HCE.out hBE)
    have HB := Aside0.mk hB
    have hBz := hB.size
    have lm := hM.lt
    have l3r := blk_lt K3.out
    clear hM hB hBE hBM0
    by_cases hlt : k < Ls.length
    · obtain ⟨ad, hAd, a0, a1, a2⟩ := at_T31 HC.out k (by omega) (by omega)
      rw [Int.toNat_natCast] at a0 a1 a2
      have hx : rd_T31 Ls k = Ls[k] := by simp [rd_T31, hlt]
      obtain ⟨sh1, sb1, sb2, sb3, sb4, snear⟩ := HLE.out Ls[k] (List.getElem_mem hlt)
      have fT := on_ok l o Ls[k] hl1 hl3 (by omega) (by omega) sh1 (by omega) (by omega) (by omega) (by omega)
      have hTb := onC_bd l o Ls[k] 200 (by omega) (by omega) sh1 sb1 sb2 sb3 sb4
      have hTh := onC_half l o Ls[k] (by omega) (by omega) sh1
      have hnew := seen_new (l := l) (o := o) HLN.out (fun s hs => (HLE.out s hs).1) (by omega) (by omega) k hlt
      have hnxt := seen_next (l := l) (o := o) (Ls := Ls) k hlt
      have hsl := seen_len (l := l) (o := o) (Ls := Ls) k (by omega)
      rw [hx] at a0 a1 a2
      obtain ⟨s, hs⟩ : ∃ s, s = Ls[k] := ⟨_, rfl⟩
      rw [← hs] at a0 a1 a2 snear fT hTb hTh hnew hnxt
      obtain ⟨T, hT⟩ : ∃ T, T = onC l o s := ⟨_, rfl⟩
      rw [← hT] at snear fT hTb hTh hnew hnxt
      obtain ⟨⟨tb1, tb2⟩, tb3, tb4⟩ := hTb
      obtain ⟨kl, hkl⟩ := ccKey T.f0.f0 T.f0.f1 T.f1 (by omega) (by omega) (by omega) (by omega) (by rcases hTh.1 with h | h <;> omega) (by rcases hTh.1 with h | h <;> omega)
      have HNEW := Aside0.mk hnew
      have HNXT := Aside0.mk hnxt
      have HSL := Aside0.mk hsl
      have HKL := Aside0.mk hkl
      have cT := fun W => XOn.calls l o s.f0.f0 s.f0.f1 s.f1 _ _ _ _ W fT
      simp only [errW_none] at cT
      have cN := fun W => honeycombref03_Near.calls 17 l D.f0.f0 D.f0.f1 D.f1 T.f0.f0 T.f0.f1 T.f1 true W snear
      have cD := fun W => honeycomblaw03_Told.calls D.f0.f0 D.f0.f1 D.f1 D.f0.f0 D.f0.f1 D.f1 W rfl
      have cTo := fun W => honeycomblaw03_Told.calls T.f0.f0 T.f0.f1 T.f1 T.f0.f0 T.f0.f1 T.f1 W rfl
      have CN := Aside0.mk cN
      have CD := Aside0.mk cD
      have CTo := Aside0.mk cTo
      clear hnew hnxt hsl hx hs hT fT snear sh1 hTh hkl cN cD cTo tb1 tb2 tb3 tb4 sb1 sb2 sb3 sb4
      rw [hAd] at HC
      subst hAd
      go_wp2_with fail
      refine (cT _).mono ?_
      rintro e w6 ⟨rfl, hb6⟩
      clear a0 a1 a2
      have hB6 := (below_alloc2 (Below.refl wr.heap.size wr) (Nat.le_refl _) (.cells #[.int .i64 s.f0.f0, .int .i64 s.f0.f1, .int .i64 s.f1] 31)).trans (hb6.mono (by simp))
      have hz6 := hB6.size
      have B6 := Aside0.mk hB6
      clear hb6 hB6 cT
      go_upto_region 18 with (fail)
      obtain ⟨w7, hw7⟩ : ∃ W, W = w6.alloc (.cells #[.int .i64 T.f0.f0, .int .i64 T.f0.f1, .int .i64 T.f1] 31) := ⟨_, rfl⟩
      have k26 : w7.heap[w6.heap.size]? = some (CB T) := by rw [hw7]; exact blk_new _ _
      have hB7 : Below wr.heap.size wr w7 := by rw [hw7]; exact below_alloc2 B6.out hz6 _
      rw [← hw7]
      obtain ⟨g26, hg26⟩ : ∃ g, g = w6.heap.size := ⟨_, rfl⟩
      rw [← hg26] at k26 ⊢
      have hne26 : g26 ≠ gm := by omega
      clear hw7 hg26
      have M7 := Aside0.mk (M.out.below hB7)
      have hB7g : Below gm wE w7 := HB.out.trans (hB7.mono (by omega))
      have hB7z : gm ≤ w7.heap.size := by have := hB7.size; omega
      have HB7 := Aside0.mk hB7g
      have K26 := Aside0.mk k26
      clear hB7 hB7g k26 B6 HB K3 HC M
      go_cut [] (fun wc => Aside0 (MapAt Tryd.prog 31 wc gm (seenL l o (Ls.take (k + 1)))) ∧ Aside0 (wc.heap[g26]? = some (CB T)) ∧ Aside0 (Below gm wE wc))
      case first =>
        obtain ⟨hlk, w8, st, hen, htu, hst, hlk8⟩ := MapAt.bump (w := w7.drew) M7.out ccKeyed Tryd.underlying42 zeroInt HKL.out (.int .i64 0) _ (.inr ⟨HNEW.out, rfl, rfl⟩)
        obtain ⟨w9, hes, hm9, htu9⟩ := hst w8 rfl (.int .i64 1)
        have hS7 : S3c g26 T w7.drew := ⟨blk_cell K26.out 0, blk_cell K26.out 1, blk_cell K26.out 2⟩
        have h26 : w8.heap[g26]? = some (CB T) := (mapTurned_heap htu hne26).trans K26.out
        have h26' : w9.heap[g26]? = some (CB T) := (mapTurned_heap htu9 hne26).trans h26
        have hS8 : S3c g26 T w8 := ⟨blk_cell h26 0, blk_cell h26 1, blk_cell h26 2⟩
        have hS9 : S3c g26 T w9 := ⟨blk_cell h26' 0, blk_cell h26' 1, blk_cell h26' 2⟩
        have hb8 : Below gm wE w8 := pw_below_grown (below_drew HB7.out) _ hB7z htu.grown (fun k hk => by cases hk; exact Nat.le_refl _)
        have hb9 : Below gm wE w9 := pw_below_grown hb8 _ (Nat.le_trans hB7z htu.grown.size) htu9.grown (fun k hk => by cases hk; exact Nat.le_refl _)
        have hw1 : IntKind.i64.wrap 1 = 1 := by decide
        have FF := Aside0.mk (And.intro hm9 (And.intro h26' hb9))
        clear hm9 h26 h26' hb8 hb9 hst htu htu9
        go_region_held3 (fun W => W.cell? ⟨g26, 0, none⟩ = some (.int .i64 T.f0.f0) ∧ W.cell? ⟨g26, 1, none⟩ = some (.int .i64 T.f0.f1) ∧ W.cell? ⟨g26, 2, none⟩ = some (.int .i64 T.f1))
          (assumption) (fail)
        all_goals (
          clear hlk hen hlk8 hes hS7 hS8 hS9
          go_wp2
          go_meet
          case rel => exact ⟨⟨by rw [HNXT.out]; exact FF.out.1⟩, ⟨FF.out.2.1⟩, ⟨FF.out.2.2⟩⟩)
      case rest =>
      clear M7 HB7 K26 HNEW
      obtain ⟨MC, K26, HBC⟩ := hcut
      go_upto_region 19 with (fail)
      have hBE : Below wE.heap.size wE wc := HGM.out ▸ HBC.out
      have K3 := Aside0.mk (blk_below K3E.out hBE)
      have hj : (seenL l o (Ls.take (k + 1)))[k]? = some (.agg #[.int .i64 T.f0.f0, .int .i64 T.f0.f1, .int .i64 T.f1], .int .i64 1) := by
        rw [HNXT.out, List.getElem?_append_right (by rw [HSL.out]; exact Nat.le_refl _), HSL.out, Nat.sub_self]
        rfl
      have hnx : ∀ W W', SZ gm g26 g3 T D wc.drew W → Below W.heap.size W W' → SZ gm g26 g3 T D wc.drew W' := fun W W' => SZ.next (B0 := wc.drew) K26.out K3.out MC.out HKL.out hj
      have hS0 : SZ gm g26 g3 T D wc.drew wc.drew := SZ.start (B0 := wc.drew) K26.out K3.out MC.out HKL.out hj
      have HNX := Aside0.mk hnx
      clear hnx hj hBE HNXT HSL
      go_cut [142] (fun v wd => v = .bool false ∧ Aside0 (MapAt Tryd.prog 31 wd gm (seenL l o (Ls.take (k + 1)))) ∧ Aside0 (Below gm wE wd))
      case first =>
        go_region_held3 (fun W => W.cell? ⟨g26, 0, none⟩ = some (.int .i64 T.f0.f0) ∧ W.cell? ⟨g26, 1, none⟩ = some (.int .i64 T.f0.f1) ∧ W.cell? ⟨g26, 2, none⟩ = some (.int .i64 T.f1) ∧ W.cell? ⟨g3, 0, none⟩ = some (.int .i64 D.f0.f0) ∧ W.cell? ⟨g3, 1, none⟩ = some (.int .i64 D.f0.f1) ∧ W.cell? ⟨g3, 2, none⟩ = some (.int .i64 D.f1) ∧ (Instr.lookup 42 (.map (some gm)) (.agg #[.int .i64 T.f0.f0, .int .i64 T.f0.f1, .int .i64 T.f1]) false).run Tryd.prog W = .ok (.int .i64 1) W ∧ Below wc.drew.heap.size wc.drew W)
          (assumption)
          (first | (go_at_call 13; (first | (with_reducible refine (CD.out _).mono ?_) | (with_reducible refine (CTo.out _).mono ?_)); rintro e wB ⟨rfl, hdB⟩; have hSB := HNX.out _ _ (by assumption : SZ gm g26 g3 T D wc.drew _) (by first | exact hdB | exact hdB.below); clear hdB)
                 | (go_at_call 12; refine (CN.out _).mono ?_; rintro e wN ⟨rfl, hbN⟩; have hSN := HNX.out _ _ (by assumption : SZ gm g26 g3 T D wc.drew _) hbN; clear hbN))
        all_goals (
          have hF := hSN.2.2.2.2.2.2.2
          have FF := Aside0.mk (And.intro (MapAt.below (w := wc.drew) MC.out hF) ((below_drew HBC.out).trans (hF.mono (by have := MC.out.lt; show gm ≤ wc.heap.size; omega))))
          clear hF hSN
          go_wp2
          go_meet
          case rel => exact ⟨rfl, ⟨FF.out.1⟩, ⟨FF.out.2⟩⟩)
      case rest =>
      clear MC HBC K26 K3 HNX hS0
      obtain ⟨rfl, MD, HBD⟩ := hcut
      go_wp2
      go_roundw
      case rel => exact ⟨k + 1, by omega, by go_num, MD.out, HBD.out⟩
      case measure => simp [intOf]; omega
    · obtain rfl : k = Ls.length := by omega
      have hsl := seen_len (l := l) (o := o) (Ls := Ls) Ls.length (Nat.le_refl _)
      have hsl2 : ((seenL l o (Ls.take Ls.length)).length : Int) = (Ls.length : Int) := by rw [hsl]
      have HSL := Aside0.mk hsl2
      have hfin : Below w.heap.size w wr := HBE.out.trans (HB.out.mono (by omega))
      have HF := Aside0.mk hfin
      clear hsl hsl2 hfin
      go_wp2_with (at_len; refine wpList_len_at rfl _ 42 rfl Tryd.underlying42 rfl M.out ?_; rw [HSL.out])
      go_ret
      exact ⟨rfl, HF.out⟩
end Go.Proofs.YtilhadckmhphgaaDoor
