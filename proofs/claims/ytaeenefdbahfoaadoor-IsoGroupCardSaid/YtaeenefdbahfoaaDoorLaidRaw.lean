/- A raw table among a law's arguments, opened and shut. -/
import Derived.Test.YtaeenefdbahfoaaDoorLaid
namespace Go.Proofs.YtaeenefdbahfoaaDoor
open Go.ChangeShapes Go.WideShapes Go.ChangeAt Go.RowKit

section
variable {H : Type} {enc : TypeId × Value → H} {w : World} {base : Nat} {spare : Nat → Bool} {held : Bool}
theorem cellsRaw : Tryd.prog.cellsOf 25 = 5 := by kernel_rfl
theorem cellsU2 : Tryd.prog.cellsOf 23 = 2 := by kernel_rfl
theorem cellsU64 : Tryd.prog.cellsOf 22 = 1 := by kernel_rfl
theorem cellsI : Tryd.prog.cellsOf 3 = 1 := by kernel_rfl
theorem open_u2 {fuel : Nat} {c0 c1 : Value} {x : DataW H × List MemPlace} (h : DataW.trod enc Tryd.prog w base spare held fuel 23 [c0, c1] = some x) :
    ∃ a b : Int, c0 = .int .u64 a ∧ c1 = .int .u64 b ∧ x = (.agg [.lit (.int .u64 a), .lit (.int .u64 b)], []) ∧ (Lit.int .u64 a).wf = true ∧ (Lit.int .u64 b).wf = true := by
  obtain ⟨zs, m, _, hz, _, hzl, hgg⟩ := DataW.trod_array Tryd.underlying23 h
  obtain ⟨z0, z1, rfl⟩ : ∃ z0 z1, zs = [z0, z1] := by
    match zs, hzl with
    | [x, y], _ => exact ⟨x, y, rfl⟩
  have g0 := hgg 0 (by decide)
  have g1 := hgg 1 (by decide)
  simp [cellsU64] at g0 g1
  obtain ⟨a, e0, rfl, wa⟩ := DataW.trod_int Tryd.underlying22 g0
  obtain ⟨b, e1, rfl, wb⟩ := DataW.trod_int Tryd.underlying22 g1
  simp at e0 e1 hz
  exact ⟨a, b, e0, e1, hz, wa, wb⟩
set_option maxRecDepth 100000 in
theorem open_raw {r : Reach} {b0 : Nat} {v : Value} {d : DataW H} {p : List MemPlace} (hv : Value.okWide Tryd.prog w r b0 25 v) (h : DataW.Trod enc Tryd.prog w base spare held 25 v d p) :
    ∃ l a b c e : Int, v = .agg #[.int .i64 l, .int .u64 a, .int .u64 b, .int .u64 c, .int .u64 e] ∧ d = .agg [.lit (.int .i64 l), .agg [.lit (.int .u64 a), .lit (.int .u64 b)], .agg [.lit (.int .u64 c), .lit (.int .u64 e)]] ∧ p = [] ∧
      (Lit.int .i64 l).wf = true ∧ (Lit.int .u64 a).wf = true ∧ (Lit.int .u64 b).wf = true ∧ (Lit.int .u64 c).wf = true ∧ (Lit.int .u64 e).wf = true := by
  obtain ⟨cs, rfl, hsz⟩ := okWide_struct Tryd.underlying25 hv
  obtain ⟨l⟩ := cs
  have hl : l.length = 5 := by rw [cellsRaw] at hsz; simpa using hsz
  obtain ⟨c0, c1, c2, c3, c4, rfl⟩ : ∃ c0 c1 c2 c3 c4, l = [c0, c1, c2, c3, c4] := by
    match l, hl with
    | [x, y, z, u, v], _ => exact ⟨x, y, z, u, v, rfl⟩
  obtain ⟨fuel, hf⟩ := h
  obtain ⟨xs, n, _, hx, _, hxl, hff⟩ := DataW.trod_struct Tryd.underlying25 hf
  obtain ⟨y0, y1, y2, rfl⟩ : ∃ y0 y1 y2, xs = [y0, y1, y2] := by
    match xs, hxl with
    | [x, y, z], _ => exact ⟨x, y, z, rfl⟩
  have f0 := hff 0 _ rfl
  have f1 := hff 1 _ rfl
  have f2 := hff 2 _ rfl
  simp [Value.cells, cellsU2, cellsI] at f0 f1 f2
  obtain ⟨l, e0, rfl, wl⟩ := DataW.trod_int Tryd.underlying3 f0
  obtain ⟨a, b, rfl, rfl, rfl, wa, wb⟩ := open_u2 f1
  obtain ⟨c, e, rfl, rfl, rfl, wc, we⟩ := open_u2 f2
  simp at e0 hx
  subst e0
  obtain ⟨rfl, rfl⟩ := hx
  exact ⟨l, a, b, c, e, rfl, rfl, rfl, wl, wa, wb, wc, we⟩
theorem shut_u2 {a b : Int} (n : Nat) (wa : (Lit.int .u64 a).wf = true) (wb : (Lit.int .u64 b).wf = true) :
    DataW.trod enc Tryd.prog w base spare held (n + 2) 23 [.int .u64 a, .int .u64 b] = some (.agg [.lit (.int .u64 a), .lit (.int .u64 b)], []) := by
  rw [DataW.trod_step]
  unfold DataW.trodStep
  simp only [Tryd.underlying23]
  rw [if_pos (by rw [cellsU2]; rfl), show List.range 2 = [0, 1] from rfl, List.mapM_cons, List.mapM_cons, List.mapM_nil]
  simp [cellsU64, DataW.trod, Tryd.underlying22, wa, wb]
set_option maxRecDepth 100000 in
theorem shut_raw {l a b c e : Int} (wl : (Lit.int .i64 l).wf = true) (wa : (Lit.int .u64 a).wf = true) (wb : (Lit.int .u64 b).wf = true) (wc : (Lit.int .u64 c).wf = true) (we : (Lit.int .u64 e).wf = true) :
    DataW.Trod enc Tryd.prog w base spare held 25 (.agg #[.int .i64 l, .int .u64 a, .int .u64 b, .int .u64 c, .int .u64 e]) (.agg [.lit (.int .i64 l), .agg [.lit (.int .u64 a), .lit (.int .u64 b)], .agg [.lit (.int .u64 c), .lit (.int .u64 e)]]) [] := by
  have tl : DataW.trod enc Tryd.prog w base spare held 2 3 [.int .i64 l] = some (.lit (.int .i64 l), []) := by
    simp [DataW.trod, Tryd.underlying3, wl]
  have t1 := shut_u2 (enc := enc) (w := w) (base := base) (spare := spare) (held := held) 0 wa wb
  have t2 := shut_u2 (enc := enc) (w := w) (base := base) (spare := spare) (held := held) 0 wc we
  have := Go.ChangeShapes.trod_struct_mk (enc := enc) (w := w) (base := base) (spare := spare) (held := held) (n := 2) (cs := [.int .i64 l, .int .u64 a, .int .u64 b, .int .u64 c, .int .u64 e])
    (xs := [(.lit (.int .i64 l), []), (.agg [.lit (.int .u64 a), .lit (.int .u64 b)], []), (.agg [.lit (.int .u64 c), .lit (.int .u64 e)], [])]) Tryd.underlying25 (by rw [cellsRaw]; rfl) (by simp [cellsI, cellsU2, tl, t1, t2])
  exact ⟨3, this⟩
theorem u64_rng {a : Int} (h : (Lit.int .u64 a).wf = true) : 0 ≤ a ∧ a < 18446744073709551616 := by
  simp [Lit.wf, IntKind.min, IntKind.max, IntKind.signed, IntKind.bits] at h
  omega
end
end Go.Proofs.YtaeenefdbahfoaaDoor
