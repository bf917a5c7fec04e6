/- From the rows' condition on axis.six to what the walks ask; a start that meets it. -/
import Derived.Test.YtaeenefdbahfoaaDoorAxis
import Derived.Test.YtaeenefdbahfoaaDoorRows
import Derived.Test.YtaeenefdbahfoaaDoorTie
import Derived.ProofKit
import Derived.LaidLaws
import Derived.LaidHandle
import Derived.LaidMore
import Derived.Lib.SmallJoins
import Derived.OpenShut
import Derived.ChangeArms
import Derived.SevenTiedAt
namespace Go.Proofs.YtaeenefdbahfoaaDoor
open Go.ChangeShapes Go.WideShapes Go.ChangeAt Go.RowKit

theorem ownP : ownKnob Tryd.prog.godebug = none := by kernel_rfl
theorem sixN : Tryd.prog.globalNamed "honeycomb/axis.six" = some 0 := by kernel_rfl
theorem sixT : (Tryd.prog.globals[0]?).map (·.type) = some 69 := by kernel_rfl
theorem cellsSix : Tryd.prog.cellsOf 69 = 12 := by kernel_rfl
theorem cellsPt : Tryd.prog.cellsOf 63 = 2 := by kernel_rfl
theorem cellsI64 : Tryd.prog.cellsOf 2 = 1 := by kernel_rfl

theorem point_of_trod {w : World} {fuel : Nat} {c0 c1 : Value} {x y : Int} {p : List MemPlace} (h : DataW.trod (fun _ => ()) Tryd.prog w 0 (fun _ => true) false fuel 63 [c0, c1] = some (.agg [.lit (.int .i64 x), .lit (.int .i64 y)], p)) : c0 = .int .i64 x ∧ c1 = .int .i64 y := by
  obtain ⟨xs, n, _, hx, _, hl, hf⟩ := DataW.trod_struct Tryd.underlying63 h
  have f0 := hf 0 _ rfl
  have f1 := hf 1 _ rfl
  obtain ⟨y0, y1, rfl⟩ : ∃ y0 y1, xs = [y0, y1] := by
    match xs, hl with
    | [a, b], _ => exact ⟨a, b, rfl⟩
  simp [cellsI64] at f0 f1
  obtain ⟨n0, e0, rfl, _⟩ := DataW.trod_int Tryd.underlying2 f0
  obtain ⟨n1, e1, rfl, _⟩ := DataW.trod_int Tryd.underlying2 f1
  simp at hx e0 e1
  obtain ⟨⟨rfl, rfl⟩, _⟩ := hx
  exact ⟨e0, e1⟩

set_option maxRecDepth 100000 in
theorem six_of_vars {W : World} {ps : List MemPlace} {rest : List (String × DataW Unit)} (h : DataW.LaidVars Tryd.prog W (("honeycomb/axis.six", Rows.laid_honeycomb_axis_six) :: rest) ps) : Six W := by
  obtain ⟨g, t, cs, fuel, p, q, hg, ht, hvar, hd, _, _⟩ := h
  obtain rfl := Option.some.inj (sixN.symm.trans hg)
  obtain rfl := Option.some.inj (sixT.symm.trans ht)
  obtain ⟨xs, n, _, hx, hcl, hl, hf⟩ := DataW.trod_array Tryd.underlying69 hd
  rw [cellsSix] at hcl
  obtain ⟨l⟩ := cs
  change l.length = 12 at hcl
  obtain ⟨c0, c1, c2, c3, c4, c5, c6, c7, c8, c9, c10, c11, rfl⟩ : ∃ c0 c1 c2 c3 c4 c5 c6 c7 c8 c9 c10 c11, l = [c0, c1, c2, c3, c4, c5, c6, c7, c8, c9, c10, c11] := by
    match l, hcl with
    | [a, b, c, d, e, f, g, h, i, j, k, l], _ => exact ⟨a, b, c, d, e, f, g, h, i, j, k, l, rfl⟩
  obtain ⟨y0, y1, y2, y3, y4, y5, rfl⟩ : ∃ y0 y1 y2 y3 y4 y5, xs = [y0, y1, y2, y3, y4, y5] := by
    match xs, hl with
    | [a, b, c, d, e, f], _ => exact ⟨a, b, c, d, e, f, rfl⟩
  simp only [Rows.laid_honeycomb_axis_six, Prod.mk.injEq, DataW.agg.injEq, List.map_cons, List.map_nil, List.cons.injEq, and_true] at hx
  obtain ⟨⟨e0, e1, e2, e3, e4, e5⟩, _⟩ := hx
  have key : ∀ (i : Nat) (a b : Value) (y : DataW Unit × List MemPlace) (u v : Int), i < 6 → (([c0, c1, c2, c3, c4, c5, c6, c7, c8, c9, c10, c11].drop (i * 2)).take 2) = [a, b] → ([y0, y1, y2, y3, y4, y5] : List _)[i]? = some y → .agg [.lit (.int .i64 u), .lit (.int .i64 v)] = y.1 → a = .int .i64 u ∧ b = .int .i64 v := by
    intro i a b y u v hi hab hy hd1
    have := hf i hi
    rw [cellsPt, hab, hy] at this
    obtain ⟨y1', y2'⟩ := y
    change _ = y1' at hd1
    subst hd1
    exact point_of_trod this
  obtain ⟨rfl, rfl⟩ := key 0 c0 c1 y0 1 0 (by omega) rfl rfl e0
  obtain ⟨rfl, rfl⟩ := key 1 c2 c3 y1 0 1 (by omega) rfl rfl e1
  obtain ⟨rfl, rfl⟩ := key 2 c4 c5 y2 (-1) 1 (by omega) rfl rfl e2
  obtain ⟨rfl, rfl⟩ := key 3 c6 c7 y3 (-1) 0 (by omega) rfl rfl e3
  obtain ⟨rfl, rfl⟩ := key 4 c8 c9 y4 0 (-1) (by omega) rfl rfl e4
  obtain ⟨rfl, rfl⟩ := key 5 c10 c11 y5 1 (-1) (by omega) rfl rfl e5
  have hcell := fun i => World.var?_cell sixN hvar i
  refine ⟨?_, fun j v hj => ?_⟩
  · have := hcell 0
    exact World.block_lt_of_cell? W ⟨0, 0, none⟩ (by simpa using this)
  · have := hcell j
    rw [this]
    simpa [sixV, sixI] using hj
def laid1 : List (String × DataW Unit) := [("honeycomb/axis.six", Rows.laid_honeycomb_axis_six)]
theorem six_of_laid {W : World} (h : laidMetH Tryd.prog laid1 W) : Six W := by
  have h' : laidMet Tryd.prog laid1 W := h
  obtain ⟨ps, hv, _⟩ := h'
  exact six_of_vars hv
theorem door_met (os : Os) (args : Array Value) : laidMetH Tryd.prog laid1 ((World.doorLaid Tryd.prog 27 os).forCall (fun _ _ => 0) ⟨#[], args, []⟩).memory :=
  laidMetH_of_parts3 (fuel := 8) (laidMet_of_run' 8 (by kernel_rfl) (by kernel_rfl)) (by kernel_rfl) (by kernel_rfl)

section
variable {H : Type} {enc : TypeId × Value → H} {w : World} {base : Nat} {spare : Nat → Bool} {held : Bool}
theorem cellsRC : Tryd.prog.cellsOf 60 = 3 := by kernel_rfl
set_option maxRecDepth 100000 in
theorem open_rcell {r : Reach} {b0 : Nat} {v : Value} {d : DataW H} {p : List MemPlace} (hv : Value.okWide Tryd.prog w r b0 60 v) (h : DataW.Trod enc Tryd.prog w base spare held 60 v d p) :
    ∃ a b c : Int, v = .agg #[.int .i64 a, .int .i64 b, .int .i64 c] ∧ d = .agg [.lit (.int .i64 a), .lit (.int .i64 b), .lit (.int .i64 c)] ∧ p = [] ∧ (Lit.int .i64 a).wf = true ∧ (Lit.int .i64 b).wf = true ∧ (Lit.int .i64 c).wf = true := by
  obtain ⟨v0, v1, v2, y0, y1, y2, n, rfl, rfl, rfl, t0, t1, t2⟩ := Go.Joins.open_agg3 Tryd.underlying60 (by kernel_rfl) cellsRC hv h
  obtain ⟨a, e0, rfl, wa⟩ := DataW.trod_int Tryd.underlying2 t0
  obtain ⟨b, e1, rfl, wb⟩ := DataW.trod_int Tryd.underlying2 t1
  obtain ⟨c, e2, rfl, wc⟩ := DataW.trod_int Tryd.underlying3 t2
  simp at e0 e1 e2
  subst e0
  subst e1
  subst e2
  exact ⟨a, b, c, rfl, rfl, rfl, wa, wb, wc⟩
set_option maxRecDepth 100000 in
theorem shut_rcell {a b c : Int} (wa : (Lit.int .i64 a).wf = true) (wb : (Lit.int .i64 b).wf = true) (wc : (Lit.int .i64 c).wf = true) :
    DataW.Trod enc Tryd.prog w base spare held 60 (.agg #[.int .i64 a, .int .i64 b, .int .i64 c]) (.agg [.lit (.int .i64 a), .lit (.int .i64 b), .lit (.int .i64 c)]) [] :=
  Go.Joins.shut_agg3 (y0 := (.lit (.int .i64 a), [])) (y1 := (.lit (.int .i64 b), [])) (y2 := (.lit (.int .i64 c), [])) Tryd.underlying60 (by kernel_rfl) cellsRC (shut_int Tryd.underlying2 wa) (shut_int Tryd.underlying2 wb) (shut_int Tryd.underlying3 wc)
end
end Go.Proofs.YtaeenefdbahfoaaDoor
