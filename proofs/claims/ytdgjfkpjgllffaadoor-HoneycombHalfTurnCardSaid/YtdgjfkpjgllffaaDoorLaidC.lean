/- A cell among a law's arguments, opened and shut. -/
import Derived.Test.YtdgjfkpjgllffaaDoorLaid
namespace Go.Proofs.YtdgjfkpjgllffaaDoor
open Go.ChangeShapes Go.WideShapes Go.ChangeAt Go.RowKit

section
variable {H : Type} {enc : TypeId × Value → H} {w : World} {base : Nat} {spare : Nat → Bool} {held : Bool}
theorem cellsCC : Tryd.prog.cellsOf 30 = 3 := by kernel_rfl
theorem cellsInt : Tryd.prog.cellsOf 3 = 1 := by kernel_rfl
set_option maxRecDepth 100000 in
theorem open_ccell {r : Reach} {b0 : Nat} {v : Value} {d : DataW H} {p : List MemPlace} (hv : Value.okWide Tryd.prog w r b0 30 v) (h : DataW.Trod enc Tryd.prog w base spare held 30 v d p) :
    ∃ a b c : Int, v = .agg #[.int .i64 a, .int .i64 b, .int .i64 c] ∧ d = .agg [.agg [.lit (.int .i64 a), .lit (.int .i64 b)], .lit (.int .i64 c)] ∧ p = [] ∧ (Lit.int .i64 a).wf = true ∧ (Lit.int .i64 b).wf = true ∧ (Lit.int .i64 c).wf = true := by
  obtain ⟨cs, rfl, hsz⟩ := okWide_struct Tryd.underlying30 hv
  obtain ⟨l⟩ := cs
  have hl : l.length = 3 := by rw [cellsCC] at hsz; simpa using hsz
  obtain ⟨c0, c1, c2, rfl⟩ : ∃ c0 c1 c2, l = [c0, c1, c2] := by
    match l, hl with
    | [x, y, z], _ => exact ⟨x, y, z, rfl⟩
  obtain ⟨fuel, hf⟩ := h
  obtain ⟨xs, n, _, hx, _, hxl, hff⟩ := DataW.trod_struct Tryd.underlying30 hf
  obtain ⟨y0, y1, rfl⟩ : ∃ y0 y1, xs = [y0, y1] := by
    match xs, hxl with
    | [x, y], _ => exact ⟨x, y, rfl⟩
  have f0 := hff 0 _ rfl
  have f1 := hff 1 _ rfl
  simp [Value.cells, cellsPt, cellsInt] at f0 f1
  obtain ⟨zs, m, _, hz, _, hzl, hgg⟩ := DataW.trod_struct Tryd.underlying28 f0
  obtain ⟨z0, z1, rfl⟩ : ∃ z0 z1, zs = [z0, z1] := by
    match zs, hzl with
    | [x, y], _ => exact ⟨x, y, rfl⟩
  have g0 := hgg 0 _ rfl
  have g1 := hgg 1 _ rfl
  simp [cellsI64] at g0 g1
  obtain ⟨a, e0, rfl, wa⟩ := DataW.trod_int Tryd.underlying2 g0
  obtain ⟨b, e1, rfl, wb⟩ := DataW.trod_int Tryd.underlying2 g1
  obtain ⟨c, e2, rfl, wc⟩ := DataW.trod_int Tryd.underlying3 f1
  simp at e0 e1 e2 hz hx
  subst e0
  subst e1
  subst e2
  subst hz
  obtain ⟨rfl, rfl⟩ := hx
  exact ⟨a, b, c, rfl, rfl, rfl, wa, wb, wc⟩
set_option maxRecDepth 100000 in
theorem shut_ccell {a b c : Int} (wa : (Lit.int .i64 a).wf = true) (wb : (Lit.int .i64 b).wf = true) (wc : (Lit.int .i64 c).wf = true) :
    DataW.Trod enc Tryd.prog w base spare held 30 (.agg #[.int .i64 a, .int .i64 b, .int .i64 c]) (.agg [.agg [.lit (.int .i64 a), .lit (.int .i64 b)], .lit (.int .i64 c)]) [] := by
  have ti : ∀ x : Int, (Lit.int .i64 x).wf = true → DataW.trod enc Tryd.prog w base spare held 1 2 [.int .i64 x] = some (.lit (.int .i64 x), []) := fun x hx => by
    simp [DataW.trod, Tryd.underlying2, hx]
  have tn : DataW.trod enc Tryd.prog w base spare held 2 3 [.int .i64 c] = some (.lit (.int .i64 c), []) := by
    simp [DataW.trod, Tryd.underlying3, wc]
  have tp : DataW.trod enc Tryd.prog w base spare held 2 28 [.int .i64 a, .int .i64 b] = some (.agg [.lit (.int .i64 a), .lit (.int .i64 b)], []) := by
    have := Go.ChangeShapes.trod_struct2_mk (enc := enc) (w := w) (base := base) (spare := spare) (held := held) (n := 1) (cs := [.int .i64 a, .int .i64 b]) (y0 := (.lit (.int .i64 a), [])) (y1 := (.lit (.int .i64 b), [])) Tryd.underlying28 (by rw [cellsPt]; rfl) (by rw [cellsI64]; exact ti a wa) (by rw [cellsI64]; exact ti b wb)
    exact this
  have := Go.ChangeShapes.trod_struct2_mk (enc := enc) (w := w) (base := base) (spare := spare) (held := held) (n := 2) (cs := [.int .i64 a, .int .i64 b, .int .i64 c]) (y0 := (.agg [.lit (.int .i64 a), .lit (.int .i64 b)], [])) (y1 := (.lit (.int .i64 c), [])) Tryd.underlying30 (by rw [cellsCC]; rfl) (by rw [cellsPt]; exact tp) (by rw [cellsInt]; exact tn)
  exact ⟨3, this⟩
end
end Go.Proofs.YtdgjfkpjgllffaaDoor
