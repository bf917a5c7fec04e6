/- Parts of the proof of LeafAgain, merged out of our texts by wip/tools/pack.py. -/
import Derived.Test.YtieekbdododkkaaDoorKLeafAgain0
import Derived.Maps.OwnSet
import Derived.Laws.StructEq
import Derived.Test.YtieekbdododkkaaDoorProg
import Derived.Below
import Derived.Deep.Draws
import Derived.Deep.AppendLies
import Derived.Maps.AppendAt
import Derived.OwnWalk
import Derived.Laws.BytesArg
import Derived.Laws.MakeOwn
import Derived.Laws.OwnMore
import Derived.Deep.OwnRows
import Derived.Tactics
import Derived.Lib.ConvBytes
import Derived.Laws.Slices
import Derived.WalkKit
import Derived.KernelRfl
import Derived.RowKit3
import Derived.Deep.LoopGhost
import Derived.Deep.QuietTactic
import Derived.BigQuiet
import Derived.WideLaws
import Derived.Deep.DeepCutAuto
import Derived.Deep.CutBlock
import Derived.Deep.RegionHeld3
import Derived.Laws.Rows
import Derived.Lib.AppendStr
import Derived.ArgAppend
import Derived.Laws.IdiomCopy
import Derived.OrdersHeld
import Derived.Laws.BitsLemmas
import Derived.RowKit
import Derived.DeepKeys4
import Derived.Laws.BitsAllLaws
import Derived.BigRegion
namespace Go.Proofs.YtieekbdododkkaaDoor
set_option linter.unusedSimpArgs false
set_option linter.unusedVariables false
set_option maxRecDepth 100000
set_option maxHeartbeats 16000000
section
open Go.ChangeShapes Go.WideShapes Go.ChangeAt Go.RowKit
section
variable {H : Type} {enc : TypeId × Value → H} {w : World} {base : Nat} {spare : Nat → Bool} {held : Bool}
theorem cellsRaw : Tryd.prog.cellsOf 25 = 5 := by kernel_rfl
theorem cellsU2 : Tryd.prog.cellsOf 23 = 2 := by kernel_rfl
theorem cellsU64 : Tryd.prog.cellsOf 22 = 1 := by kernel_rfl
theorem cellsI : Tryd.prog.cellsOf 3 = 1 := by kernel_rfl
theorem open_u2 {fuel : Nat} {c0 c1 : Value} {x : DataW H × List MemPlace} (h : DataW.trod enc Tryd.prog w base spare held fuel 23 [c0, c1] = some x) :
    ∃ a b : Int, c0 = .int .u64 a ∧ c1 = .int .u64 b ∧ x = (.agg [.lit (.int .u64 a), .lit (.int .u64 b)], []) ∧ (Lit.int .u64 a).wf = true ∧ (Lit.int .u64 b).wf = true := by
  obtain ⟨zs, m, _, hz, _, hzl, hgg⟩ := DataW.trod_array Tryd.underlying23 h
  obtain ⟨z0, z1, rfl⟩ : ∃ z0 z1, zs = [z0, z1] := by
    match zs, hzl with
    | [x, y], _ => exact ⟨x, y, rfl⟩
  have g0 := hgg 0 (by decide)
  have g1 := hgg 1 (by decide)
  simp [cellsU64] at g0 g1
  obtain ⟨a, e0, rfl, wa⟩ := DataW.trod_int Tryd.underlying22 g0
  obtain ⟨b, e1, rfl, wb⟩ := DataW.trod_int Tryd.underlying22 g1
  simp at e0 e1 hz
  exact ⟨a, b, e0, e1, hz, wa, wb⟩
theorem open_raw {r : Reach} {b0 : Nat} {v : Value} {d : DataW H} {p : List MemPlace} (hv : Value.okWide Tryd.prog w r b0 25 v) (h : DataW.Trod enc Tryd.prog w base spare held 25 v d p) :
    ∃ l a b c e : Int, v = .agg #[.int .i64 l, .int .u64 a, .int .u64 b, .int .u64 c, .int .u64 e] ∧ d = .agg [.lit (.int .i64 l), .agg [.lit (.int .u64 a), .lit (.int .u64 b)], .agg [.lit (.int .u64 c), .lit (.int .u64 e)]] ∧ p = [] ∧
      (Lit.int .i64 l).wf = true ∧ (Lit.int .u64 a).wf = true ∧ (Lit.int .u64 b).wf = true ∧ (Lit.int .u64 c).wf = true ∧ (Lit.int .u64 e).wf = true := by
  obtain ⟨cs, rfl, hsz⟩ := okWide_struct Tryd.underlying25 hv
  obtain ⟨l⟩ := cs
  have hl : l.length = 5 := by rw [cellsRaw] at hsz; simpa using hsz
  obtain ⟨c0, c1, c2, c3, c4, rfl⟩ : ∃ c0 c1 c2 c3 c4, l = [c0, c1, c2, c3, c4] := by
    match l, hl with
    | [x, y, z, u, v], _ => exact ⟨x, y, z, u, v, rfl⟩
  obtain ⟨fuel, hf⟩ := h
  obtain ⟨xs, n, _, hx, _, hxl, hff⟩ := DataW.trod_struct Tryd.underlying25 hf
  obtain ⟨y0, y1, y2, rfl⟩ : ∃ y0 y1 y2, xs = [y0, y1, y2] := by
    match xs, hxl with
    | [x, y, z], _ => exact ⟨x, y, z, rfl⟩
  have f0 := hff 0 _ rfl
  have f1 := hff 1 _ rfl
  have f2 := hff 2 _ rfl
  simp [Value.cells, cellsU2, cellsI] at f0 f1 f2
  obtain ⟨l, e0, rfl, wl⟩ := DataW.trod_int Tryd.underlying3 f0
  obtain ⟨a, b, rfl, rfl, rfl, wa, wb⟩ := open_u2 f1
  obtain ⟨c, e, rfl, rfl, rfl, wc, we⟩ := open_u2 f2
  simp at e0 hx
  subst e0
  obtain ⟨rfl, rfl⟩ := hx
  exact ⟨l, a, b, c, e, rfl, rfl, rfl, wl, wa, wb, wc, we⟩
theorem shut_u2 {a b : Int} (n : Nat) (wa : (Lit.int .u64 a).wf = true) (wb : (Lit.int .u64 b).wf = true) :
    DataW.trod enc Tryd.prog w base spare held (n + 2) 23 [.int .u64 a, .int .u64 b] = some (.agg [.lit (.int .u64 a), .lit (.int .u64 b)], []) := by
  rw [DataW.trod_step]
  unfold DataW.trodStep
  simp only [Tryd.underlying23]
  rw [if_pos (by rw [cellsU2]; rfl), show List.range 2 = [0, 1] from rfl, List.mapM_cons, List.mapM_cons, List.mapM_nil]
  simp [cellsU64, DataW.trod, Tryd.underlying22, wa, wb]
theorem shut_raw {l a b c e : Int} (wl : (Lit.int .i64 l).wf = true) (wa : (Lit.int .u64 a).wf = true) (wb : (Lit.int .u64 b).wf = true) (wc : (Lit.int .u64 c).wf = true) (we : (Lit.int .u64 e).wf = true) :
    DataW.Trod enc Tryd.prog w base spare held 25 (.agg #[.int .i64 l, .int .u64 a, .int .u64 b, .int .u64 c, .int .u64 e]) (.agg [.lit (.int .i64 l), .agg [.lit (.int .u64 a), .lit (.int .u64 b)], .agg [.lit (.int .u64 c), .lit (.int .u64 e)]]) [] := by
  have tl : DataW.trod enc Tryd.prog w base spare held 2 3 [.int .i64 l] = some (.lit (.int .i64 l), []) := by
    simp [DataW.trod, Tryd.underlying3, wl]
  have t1 := shut_u2 (enc := enc) (w := w) (base := base) (spare := spare) (held := held) 0 wa wb
  have t2 := shut_u2 (enc := enc) (w := w) (base := base) (spare := spare) (held := held) 0 wc we
  have := Go.ChangeShapes.trod_struct_mk (enc := enc) (w := w) (base := base) (spare := spare) (held := held) (n := 2) (cs := [.int .i64 l, .int .u64 a, .int .u64 b, .int .u64 c, .int .u64 e])
    (xs := [(.lit (.int .i64 l), []), (.agg [.lit (.int .u64 a), .lit (.int .u64 b)], []), (.agg [.lit (.int .u64 c), .lit (.int .u64 e)], [])]) Tryd.underlying25 (by rw [cellsRaw]; rfl) (by simp [cellsI, cellsU2, tl, t1, t2])
  exact ⟨3, this⟩
theorem u64_rng {a : Int} (h : (Lit.int .u64 a).wf = true) : 0 ≤ a ∧ a < 18446744073709551616 := by
  simp [Lit.wf, IntKind.min, IntKind.max, IntKind.signed, IntKind.bits] at h
  omega
end
end
section
open Go.ChangeShapes Go.WideShapes Go.ChangeAt Go.RowKit
section
variable {H : Type} {enc : TypeId × Value → H} {w : World} {base : Nat} {spare : Nat → Bool} {held : Bool}
theorem okWide_array4 {P : Program} {r : Reach} {b0 : Nat} {t e n : Nat} {v : Value} (ht : P.underlying t = some (.array n e)) (h : Value.okWide P w r b0 t v) : ∃ cs, v = .agg cs ∧ cs.size = P.cellsOf t := by
  simp only [Value.okWide, ht] at h
  obtain ⟨cs, h1, h2, _⟩ := h
  exact ⟨cs, h1, h2⟩
theorem cellsQ4 : Tryd.prog.cellsOf 27 = 4 := by kernel_rfl
theorem cellsU32 : Tryd.prog.cellsOf 26 = 1 := by kernel_rfl
theorem u32_rng {a : Int} (h : (Lit.int .u32 a).wf = true) : 0 ≤ a ∧ a < 4294967296 := by
  simp [Lit.wf, IntKind.min, IntKind.max, IntKind.signed, IntKind.bits] at h
  omega
theorem open_q4 {r : Reach} {b0 : Nat} {v : Value} {d : DataW H} {p : List MemPlace} (hv : Value.okWide Tryd.prog w r b0 27 v) (h : DataW.Trod enc Tryd.prog w base spare held 27 v d p) :
    ∃ l a b c : Int, v = .agg #[.int .u32 l, .int .u32 a, .int .u32 b, .int .u32 c] ∧ d = .agg [.lit (.int .u32 l), .lit (.int .u32 a), .lit (.int .u32 b), .lit (.int .u32 c)] ∧ p = [] ∧
      (Lit.int .u32 l).wf = true ∧ (Lit.int .u32 a).wf = true ∧ (Lit.int .u32 b).wf = true ∧ (Lit.int .u32 c).wf = true := by
  obtain ⟨cs, rfl, hsz⟩ := okWide_array4 Tryd.underlying27 hv
  obtain ⟨l⟩ := cs
  have hl : l.length = 4 := by rw [cellsQ4] at hsz; simpa using hsz
  obtain ⟨c0, c1, c2, c3, rfl⟩ : ∃ c0 c1 c2 c3, l = [c0, c1, c2, c3] := by
    match l, hl with
    | [x, y, z, u], _ => exact ⟨x, y, z, u, rfl⟩
  obtain ⟨fuel, hf⟩ := h
  obtain ⟨zs, m, _, hz, _, hzl, hgg⟩ := DataW.trod_array Tryd.underlying27 hf
  obtain ⟨z0, z1, z2, z3, rfl⟩ : ∃ z0 z1 z2 z3, zs = [z0, z1, z2, z3] := by
    match zs, hzl with
    | [x, y, z, u], _ => exact ⟨x, y, z, u, rfl⟩
  have g0 := hgg 0 (by decide)
  have g1 := hgg 1 (by decide)
  have g2 := hgg 2 (by decide)
  have g3 := hgg 3 (by decide)
  simp [Value.cells, cellsU32] at g0 g1 g2 g3
  obtain ⟨a, e0, rfl, wa⟩ := DataW.trod_int Tryd.underlying26 g0
  obtain ⟨b, e1, rfl, wb⟩ := DataW.trod_int Tryd.underlying26 g1
  obtain ⟨c, e2, rfl, wc⟩ := DataW.trod_int Tryd.underlying26 g2
  obtain ⟨e, e3, rfl, we⟩ := DataW.trod_int Tryd.underlying26 g3
  simp at e0 e1 e2 e3 hz
  subst e0 e1 e2 e3
  obtain ⟨rfl, rfl⟩ := hz
  exact ⟨a, b, c, e, rfl, rfl, rfl, wa, wb, wc, we⟩
theorem shut_q4 {a b c e : Int} (wa : (Lit.int .u32 a).wf = true) (wb : (Lit.int .u32 b).wf = true) (wc : (Lit.int .u32 c).wf = true) (we : (Lit.int .u32 e).wf = true) :
    DataW.Trod enc Tryd.prog w base spare held 27 (.agg #[.int .u32 a, .int .u32 b, .int .u32 c, .int .u32 e]) (.agg [.lit (.int .u32 a), .lit (.int .u32 b), .lit (.int .u32 c), .lit (.int .u32 e)]) [] := by
  refine ⟨2, ?_⟩
  rw [DataW.trod_step]
  unfold DataW.trodStep
  simp only [Tryd.underlying27]
  rw [if_pos (by rw [cellsQ4]; rfl), show List.range 4 = [0, 1, 2, 3] from rfl, List.mapM_cons, List.mapM_cons, List.mapM_cons, List.mapM_cons, List.mapM_nil]
  simp [Value.cells, cellsU32, DataW.trod, Tryd.underlying26, wa, wb, wc, we]
end
end
section
open Go.ChangeMaps Go.MapKept Go.WideShapes
open Go.Maps (Keyed)
/-- block b of w is a map of these keys and values, in the order in which they came -/
def MapAt (P : Program) (k : TypeId) (w : World) (b : Nat) (l : List (Value × Value)) : Prop :=
  ∃ es clock, w.heap[b]? = some (.map es clock) ∧ Stamped es clock ∧ (∀ x ∈ es.toList, ∃ kl, keyOf P k x.key = some kl) ∧ es.toList.map (fun e => (e.key, e.val)) = l
section
variable {P : Program} {k e t : TypeId} {w : World} {b : Nat} {l : List (Value × Value)}
theorem nodup_idx {α : Type} {l : List α} (h : l.Nodup) {i j : Nat} {x : α} (hi : l[i]? = some x) (hj : l[j]? = some x) : i = j :=
  (List.getElem?_inj (List.getElem?_eq_some_iff.1 hi).1 h).1 (hi.trans hj.symm)
theorem MapAt_made (P : Program) (k : TypeId) (w : World) : MapAt P k (w.alloc (.map #[] 0)) w.heap.size [] :=
  ⟨#[], 0, (MapKept.heap_alloc w (.map #[] 0)).1, ⟨by simp, by simp, by simp⟩, by simp, rfl⟩
theorem MapAt.of_heap {w' : World} (h : MapAt P k w b l) (hh : w'.heap[b]? = w.heap[b]?) : MapAt P k w' b l := by
  obtain ⟨es, c, hb, r⟩ := h
  exact ⟨es, c, hh.trans hb, r⟩
theorem MapAt.lt (h : MapAt P k w b l) : b < w.heap.size := by
  obtain ⟨es, c, hb, _⟩ := h
  exact (Array.getElem?_eq_some_iff.1 hb).1
theorem MapAt.below {w' : World} (h : MapAt P k w b l) (hb : RowKit.Below w.heap.size w w') : MapAt P k w' b l :=
  h.of_heap (hb.block b h.lt)
theorem MapAt.find (h : MapAt P k w b l) (K : Keyed P k) {key : Value} {kl : Lit} (hkey : keyOf P k key = some kl) :
    ∃ es clock, w.heap[b]? = some (.map es clock) ∧ Stamped es clock ∧ (∀ x ∈ es.toList, ∃ kl, keyOf P k x.key = some kl) ∧ es.toList.map (fun e => (e.key, e.val)) = l ∧
      (((∀ W, (Instr.findKey k key es.toList).run P W = .ok none W) ∧ ∀ p ∈ l, p.1 ≠ key) ∨ ∃ j e0, (∀ W, (Instr.findKey k key es.toList).run P W = .ok (some (j, e0.val)) W) ∧ es.toList[j]? = some e0 ∧ e0.key = key ∧ l[j]? = some (key, e0.val)) := by
  obtain ⟨es, clock, hb, hs, hk, hl⟩ := h
  refine ⟨es, clock, hb, hs, hk, hl, ?_⟩
  have hnd : ∀ (i j : Nat) (x y : MapEntry), es.toList[i]? = some x → es.toList[j]? = some y → x.key = y.key → i = j := by
    intro i j x y hi hj hxy
    exact nodup_idx (x := y.key) hs.2.2 (by rw [List.getElem?_map, hi]; exact congrArg some hxy) (by rw [List.getElem?_map, hj]; rfl)
  by_cases hx : ∃ x ∈ es.toList, x.key = key
  · obtain ⟨x, hx, hxk⟩ := hx
    obtain ⟨i, hi⟩ := List.mem_iff_getElem?.1 hx
    refine Or.inr ⟨i, x, fun W => ?_, hi, hxk, by rw [← hl, List.getElem?_map, hi]; simp [hxk]⟩
    rcases K.find W hkey es.toList hk with ⟨_, h2⟩ | ⟨j, e0, h1, h2, h3⟩
    · exact absurd hxk (h2 x hx)
    · have hij := hnd i j x e0 hi h2 (hxk.trans h3.symm)
      subst hij
      rw [hi] at h2
      cases h2
      exact h1
  · refine Or.inl ⟨fun W => ?_, fun p hp hpk => ?_⟩
    · rcases K.find W hkey es.toList hk with ⟨h1, _⟩ | ⟨j, e0, h1, h2, h3⟩
      · exact h1
      · exact absurd ⟨e0, List.mem_of_getElem? h2, h3⟩ hx
    · rw [← hl] at hp
      obtain ⟨x, hx1, rfl⟩ := List.mem_map.1 hp
      exact hx ⟨x, hx1, hpk⟩
theorem MapAt.look_none (c : Bool) (h : MapAt P k w b l) (K : Keyed P k) (ht : P.underlying t = some (.map k e)) {z : Value} (hz : ∀ W, (zeroValue e).run P W = .ok z W) {key : Value} {kl : Lit} (hkey : keyOf P k key = some kl) (hn : ∀ p ∈ l, p.1 ≠ key) :
    (Instr.lookup t (.map (some b)) key c).run P w = .ok (if c then .tuple #[z, .bool false] else z) w := by
  obtain ⟨es, clock, hb, hs, hk, hl, ⟨h1, h2⟩ | ⟨j, e0, h1, h2, h3, h4⟩⟩ := h.find K hkey
  · simp [Instr.lookup, run_underlying ht, MapKept.run_getObj_map hb, K.check w _ hkey, h1, hz, Result.andThen]
  · exact absurd rfl (hn _ (List.mem_of_getElem? h4))
theorem MapAt.look_some (c : Bool) (h : MapAt P k w b l) (K : Keyed P k) (ht : P.underlying t = some (.map k e)) {key v : Value} {kl : Lit} (hkey : keyOf P k key = some kl) {j : Nat} (hj : l[j]? = some (key, v)) :
    (Instr.lookup t (.map (some b)) key c).run P w = .ok (if c then .tuple #[v, .bool true] else v) w := by
  obtain ⟨es, clock, hb, hs, hk, hl, ⟨h1, h2⟩ | ⟨i, e0, h1, h2, h3, h4⟩⟩ := h.find K hkey
  · exact absurd rfl (h2 _ (List.mem_of_getElem? hj))
  · have hij : i = j := by
      have hk1 : es.toList.map (·.key) = l.map (·.1) := by rw [← hl, List.map_map]; rfl
      exact nodup_idx (x := key) (hk1 ▸ hs.2.2) (by rw [List.getElem?_map, h4]; rfl) (by rw [List.getElem?_map, hj]; rfl)
    subst hij
    rw [hj] at h4
    cases h4
    simp [Instr.lookup, run_underlying ht, MapKept.run_getObj_map hb, K.check w _ hkey, h1, Result.andThen]
theorem MapAt.len (h : MapAt P k w b l) (ht : P.underlying t = some (.map k e)) (ty : TypeId) : (Builtin.len_ #[t] ty #[.map (some b)]).run P w = .ok (.int .i64 l.length) w := by
  obtain ⟨es, clock, hb, _, _, hl⟩ := h
  have : l.length = es.size := by rw [← hl]; simp
  rw [this]
  simp [Builtin.len_, run_underlying ht, MapKept.run_getObj_map hb, goInt, Result.andThen]
theorem mapTurned_heap {w w1 : World} (h : w.mapTurned w1 b) {g : Nat} (hg : g ≠ b) : w1.heap[g]? = w.heap[g]? := by
  obtain ⟨es, c, es', c', hb, rfl⟩ := h
  unfold setBlock
  rw [Array.getElem?_setIfInBounds_ne (by omega)]
end
end
end Go.Proofs.YtieekbdododkkaaDoor
namespace Go.Proofs.YtieekbdododkkaaDoorW.PrintLast
set_option linter.unusedSimpArgs false
set_option linter.unusedVariables false
open Go.Proofs.YtieekbdododkkaaDoorW.PrintWords (Aside0)
def needsOf (md : Region.Mode) (o : Oper) : List Nat := (o.after.toList.filter (fun e => Region.binds md e)).map (fun e => e.on)
def clashOf (md : Region.Mode) (ops : Array Oper) (i : Nat) (oi : Oper) : List Nat := (List.range ops.size).filter fun j => !(j == i) && match ops[j]? with
  | some oj => !(oj.after.any (fun e => Region.binds md e && e.on == i) || oi.apart ops oj)
  | none => false
/-- No select in it; for each operation: what must have come up before it, and what may not come up behind it if it is taken first. -/
def rtab (md : Region.Mode) (ops : Array Oper) : Bool × List (List Nat × List Nat) := (Region.noSelect ops, (List.range ops.size).map fun i => match ops[i]? with
  | some o => (needsOf md o, clashOf md ops i o)
  | none => ([], []))
def readyAt (T : List (List Nat × List Nat)) (l : List Bool) (i : Nat) : Bool := !l.getD i true && match T[i]? with
  | some r => r.1.all (fun j => l.getD j false)
  | none => false
def readyT (T : List (List Nat × List Nat)) (l : List Bool) : List Nat := (List.range T.length).filter (readyAt T l)
def freeT (T : List (List Nat × List Nat)) (l : List Bool) (i : Nat) : Bool := match T[i]? with
  | some r => r.2.all (fun j => l.getD j true)
  | none => false
def closedT (T : List (List Nat × List Nat)) (l : List Bool) : Bool := (List.range T.length).all fun j => !l.getD j false || match T[j]? with
  | some r => r.1.all (fun k => l.getD k false)
  | none => true
def reachT (T : List (List Nat × List Nat)) (i : Nat) : Nat → Nat → Bool
  | 0, _ => false
  | fuel + 1, d => match T[d]? with
    | some r => r.1.any fun j => j == i || reachT T i fuel j
    | none => false
def lastT (T : List (List Nat × List Nat)) (l : List Bool) (ds : List Nat) (i : Nat) : Bool := ds.all fun d => l.getD d true || reachT T i T.length d
section
variable {md : Region.Mode} {ops : Array Oper} {T : Bool × List (List Nat × List Nat)} {l l' li lj lk : Array Bool} {ds : List Nat} {i j k : Nat}
theorem gd (l : Array Bool) (j : Nat) (b : Bool) : l.getD j b = l.toList.getD j b := by simp [Array.getD_eq_getD_getElem?, List.getD_eq_getElem?_getD]
theorem needs_all (o : Oper) (p : Nat → Bool) : o.after.all (fun e => !Region.binds md e || p e.on) = (needsOf md o).all p := by
  unfold needsOf
  rw [← Array.all_toList]
  induction o.after.toList with
  | nil => rfl
  | cons e r ih =>
    rw [List.all_cons, ih, List.filter_cons]
    cases h : Region.binds md e <;> simp
theorem needs_any (o : Oper) (p : Nat → Bool) : o.after.any (fun e => Region.binds md e && p e.on) = (needsOf md o).any p := by
  unfold needsOf
  rw [← Array.any_toList]
  induction o.after.toList with
  | nil => rfl
  | cons e r ih =>
    rw [List.any_cons, ih, List.filter_cons]
    cases h : Region.binds md e <;> simp
theorem rtab_length : (rtab md ops).2.length = ops.size := by simp [rtab]
theorem rtab_some {o : Oper} (h : ops[i]? = some o) : (rtab md ops).2[i]? = some (needsOf md o, clashOf md ops i o) := by
  have hi := (Array.getElem?_eq_some_iff.1 h).1
  unfold rtab
  rw [List.getElem?_map, List.getElem?_range hi, Option.map_some, h]
theorem rtab_none (h : ops[i]? = none) : (rtab md ops).2[i]? = none := by
  have hi : ops.size ≤ i := Array.getElem?_eq_none_iff.1 h
  exact List.getElem?_eq_none (by rw [rtab_length]; exact hi)
theorem readyAt_eq : readyAt (rtab md ops).2 l.toList i = (!l.getD i true && ((ops[i]?).map (·.after.all fun e => !Region.binds md e || l.getD e.on false)).getD false) := by
  unfold readyAt
  rw [gd]
  cases h : ops[i]? with
  | none => rw [rtab_none h]; rfl
  | some o =>
    rw [rtab_some h]
    simp only [Option.map_some, Option.getD_some]
    rw [← needs_all]
    simp only [gd]
theorem ready_eq : Region.ready md ops l = readyT (rtab md ops).2 l.toList := by
  unfold Region.ready readyT
  rw [rtab_length]
  refine List.filter_congr (fun i _ => ?_)
  rw [readyAt_eq]
theorem free_eq : Region.free md ops l i = freeT (rtab md ops).2 l.toList i := by
  unfold Region.free freeT
  cases h : ops[i]? with
  | none => rw [rtab_none h]
  | some oi =>
    rw [rtab_some h]
    simp only [clashOf]
    rw [List.all_filter]
    congr 1
    funext j
    rw [gd]
    cases hj : ops[j]? with
    | none => cases (j == i) <;> cases (l.toList.getD j true) <;> simp
    | some oj =>
      cases (j == i) <;> cases (l.toList.getD j true) <;> cases (oj.after.any (fun e => Region.binds md e && e.on == i) || oi.apart ops oj) <;> simp_all
theorem closed_eq : Region.closedB md ops l = closedT (rtab md ops).2 l.toList := by
  unfold Region.closedB closedT
  rw [rtab_length]
  congr 1
  funext j
  rw [gd]
  cases h : ops[j]? with
  | none => rw [rtab_none h]
  | some o =>
    rw [rtab_some h]
    simp only
    rw [← needs_all]
    simp only [gd]
theorem reach_eq : ∀ (fuel d : Nat), Region.reachB md ops i fuel d = reachT (rtab md ops).2 i fuel d
  | 0, _ => rfl
  | fuel + 1, d => by
    unfold Region.reachB reachT
    cases h : ops[d]? with
    | none => rw [rtab_none h]
    | some o =>
      rw [rtab_some h]
      simp only
      rw [← needs_any]
      congr 1
      funext e
      rw [reach_eq fuel]
theorem last_eq : Region.lastB md ops l ds i = lastT (rtab md ops).2 l.toList ds i := by
  unfold Region.lastB lastT
  rw [rtab_length]
  congr 1
  funext d
  rw [gd, reach_eq]
theorem readyAt_mem (h : readyAt T.2 l.toList i = true) (hT : rtab md ops = T) : (Region.ready md ops l).contains i = true := by
  subst hT
  rw [ready_eq]
  unfold readyT
  rw [List.contains_iff_mem, List.mem_filter, List.mem_range]
  refine ⟨?_, h⟩
  unfold readyAt at h
  rw [Bool.and_eq_true] at h
  cases hq : (rtab md ops).2[i]? with
  | none => rw [hq] at h; simp at h
  | some r => exact (List.getElem?_eq_some_iff.1 hq).1
theorem set_of (h : (l.toList.set i true == l'.toList) = true) : (l.setIfInBounds i true == l') = true := by
  rw [beq_iff_eq] at h ⊢
  apply Array.ext'
  rw [Array.toList_setIfInBounds]
  exact h
def anyT (T : Bool × List (List Nat × List Nat)) (l l' : List Bool) (i : Nat) : Bool := T.1 && freeT T.2 l i && readyAt T.2 l i && (l.set i true == l')
/-- pure_'s condition out of the table. -/
theorem any_of (hT : rtab md ops = T) (h : anyT T l.toList l'.toList i = true) : anyB md ops l l' i = true := by
  simp only [anyT, Bool.and_eq_true] at h
  obtain ⟨⟨⟨h1, h2⟩, h3⟩, h4⟩ := h
  have h5 := readyAt_mem h3 hT
  have h6 := set_of h4
  subst hT
  simp only [anyB, Bool.and_eq_true]
  exact ⟨⟨⟨h1, by rw [free_eq]; exact h2⟩, h5⟩, h6⟩
def takeT (T : Bool × List (List Nat × List Nat)) (ds : List Nat) (l l' : List Bool) (i : Nat) : Bool := T.1 && freeT T.2 l i && readyAt T.2 l i && closedT T.2 l && lastT T.2 l ds i && (l.set i true == l')
/-- take_'s. -/
theorem take_of (hT : rtab md ops = T) (h : takeT T ds l.toList l'.toList i = true) : takeB md ops ds l l' i = true := by
  simp only [takeT, Bool.and_eq_true] at h
  obtain ⟨⟨⟨⟨⟨h1, h2⟩, h3⟩, h4⟩, h5⟩, h6⟩ := h
  have h7 := readyAt_mem h3 hT
  have h8 := set_of h6
  subst hT
  simp only [takeB, Bool.and_eq_true]
  exact ⟨⟨⟨⟨⟨h1, by rw [free_eq]; exact h2⟩, h7⟩, by rw [closed_eq]; exact h4⟩, by rw [last_eq]; exact h5⟩, h8⟩
/-- one_'s and last_'s. -/
theorem one_of (hT : rtab md ops = T) (h : (readyT T.2 l.toList == [i] && l.toList.set i true == l'.toList) = true) : readyB md ops l l' i = true := by
  simp only [Bool.and_eq_true] at h
  obtain ⟨h1, h2⟩ := h
  subst hT
  simp only [readyB, Bool.and_eq_true]
  exact ⟨by rw [ready_eq]; exact h1, set_of h2⟩
/-- done_'s. -/
theorem done_of (hT : rtab md ops = T) (h : (readyT T.2 l.toList == []) = true) : (Region.ready md ops l == []) = true := by
  subst hT
  rw [ready_eq]
  exact h
/-- What d waits for, as_ bits: told in the table (B), checked in one pass: each bit is a need of d, or a bit of an earlier need's. -/
def upM (B : List Nat) (d : Nat) : List Nat → Nat
  | [] => 0
  | n :: r => (2 ^ n ||| (if n < d then B.getD n 0 else 0)) ||| upM B d r
def waitsOk (T : List (List Nat × List Nat)) (B : List Nat) : Bool := (List.range T.length).all fun d => match T[d]? with
  | some r => (B.getD d 0 ||| upM B d r.1) == upM B d r.1
  | none => false
theorem upM_bit {B : List Nat} {d i : Nat} : ∀ {ns : List Nat}, (upM B d ns).testBit i = true → ∃ n ∈ ns, n = i ∨ (n < d ∧ (B.getD n 0).testBit i = true)
  | [], h => by simp [upM] at h
  | n :: r, h => by
    unfold upM at h
    rw [Nat.testBit_or, Nat.testBit_or, Bool.or_eq_true, Bool.or_eq_true] at h
    rcases h with (h | h) | h
    · rw [Nat.testBit_two_pow] at h
      exact ⟨n, List.mem_cons_self, .inl (by simpa using h)⟩
    · by_cases hn : n < d
      · rw [if_pos hn] at h
        exact ⟨n, List.mem_cons_self, .inr ⟨hn, h⟩⟩
      · rw [if_neg hn] at h
        simp at h
    · obtain ⟨m, hm, h2⟩ := upM_bit h
      exact ⟨m, List.mem_cons_of_mem _ hm, h2⟩
theorem reach_bit {T : List (List Nat × List Nat)} {B : List Nat} (hB : waitsOk T B = true) : ∀ (fuel d : Nat), d < fuel → d < T.length → (B.getD d 0).testBit i = true → reachT T i fuel d = true
  | 0, d, h, _, _ => by omega
  | fuel + 1, d, h, hd, hb => by
    have h1 := List.all_eq_true.1 hB d (List.mem_range.2 hd)
    cases hr : T[d]? with
    | none => rw [hr] at h1; simp at h1
    | some r =>
      rw [hr] at h1
      simp only [beq_iff_eq] at h1
      have h2 : (upM B d r.1).testBit i = true := by rw [← h1, Nat.testBit_or, hb, Bool.true_or]
      obtain ⟨n, hn, h3⟩ := upM_bit h2
      unfold reachT
      rw [hr]
      simp only
      rw [List.any_eq_true]
      refine ⟨n, hn, ?_⟩
      rcases h3 with rfl | ⟨h4, h5⟩
      · simp
      · rw [reach_bit hB fuel n (by omega) (by omega) h5, Bool.or_true]
def lastW (T : List (List Nat × List Nat)) (B : List Nat) (l : List Bool) (ds : List Nat) (i : Nat) : Bool := ds.all fun d => l.getD d true || (decide (d < T.length) && (B.getD d 0).testBit i)
def takeW (T : Bool × List (List Nat × List Nat)) (B : List Nat) (ds : List Nat) (l l' : List Bool) (i : Nat) : Bool := T.1 && freeT T.2 l i && readyAt T.2 l i && closedT T.2 l && lastW T.2 B l ds i && (l.set i true == l')
/-- take_'s, by the bits. -/
theorem take_ofW {B : List Nat} (hT : rtab md ops = T) (hB : waitsOk T.2 B = true) (h : takeW T B ds l.toList l'.toList i = true) : takeB md ops ds l l' i = true := by
  refine take_of hT ?_
  simp only [takeW, takeT, Bool.and_eq_true] at h ⊢
  obtain ⟨⟨⟨⟨⟨h1, h2⟩, h3⟩, h4⟩, h5⟩, h6⟩ := h
  refine ⟨⟨⟨⟨⟨h1, h2⟩, h3⟩, h4⟩, ?_⟩, h6⟩
  unfold lastW at h5
  unfold lastT
  rw [List.all_eq_true] at h5 ⊢
  intro d hd
  have h7 := h5 d hd
  rw [Bool.or_eq_true, Bool.and_eq_true, decide_eq_true_eq] at h7
  rcases h7 with h7 | ⟨h8, h9⟩
  · rw [h7, Bool.true_or]
  · rw [reach_bit hB _ d h8 h8 h9, Bool.or_true]
theorem with_tabW {P : Program} {Q : Exit → Act → World → Prop} {S : World → Prop} {n : Nat} {a : Act} {w : World} {B : List Nat} (hT : rtab md ops = T) (hB : waitsOk T.2 B = true) (h : Aside0 (rtab md ops = T) → Aside0 (waitsOk T.2 B = true) → wpAnyLast P md ops Q S ds n l a w) : wpAnyLast P md ops Q S ds n l a w := h ⟨hT⟩ ⟨hB⟩
end
/-- The operations of a region, by its number. -/
def opsIn : Code → Nat → Option (Array Oper)
  | .region id ops _, k => if id == k then some ops else none
  | .seq a b, k => match opsIn a k with
    | some o => some o
    | none => opsIn b k
  | .cond _ a b, k => match opsIn a k with
    | some o => some o
    | none => opsIn b k
  | .block _ c, k => opsIn c k
  | .loop c, k => opsIn c k
  | .scope c, k => opsIn c k
  | .rangeFunc _ _ a b, k => match opsIn a k with
    | some o => some o
    | none => opsIn b k
  | _, _ => none
def opsOf (f : Func) (k : Nat) : Array Oper := ((f.body.bind fun c => opsIn c k)).getD #[]
end Go.Proofs.YtieekbdododkkaaDoorW.PrintLast
namespace Go.Proofs.YtieekbdododkkaaDoorW.PrintWords
set_option linter.unusedSimpArgs false
set_option linter.unusedVariables false
open Go.RowKit
section
variable {P : Program} {d : Nat} {xs ys : Array Value} {f : Field} {fs : List Field} {a b : Value} {r s : Bool} {w : World}
/-- The last field that counts. -/
theorem eqf_last (hn : (f.name == "_") = false) (ha : (part f.type xs f.offset).run P w = .ok a w) (hb : (part f.type ys f.offset).run P w = .ok b w) (he : (Op.equalIn d f.type a b).run P w = .ok r w) : (Op.eqFields d xs ys [f]).run P w = .ok r w := by
  have hn' : f.name ≠ "_" := by simpa using hn
  simp only [Op.eqFields, if_pos hn', Sem.run_bind, ha, hb, he, Result.andThen_ok]
  cases r <;> simp
theorem eqf_cons (hn : (f.name == "_") = false) (ha : (part f.type xs f.offset).run P w = .ok a w) (hb : (part f.type ys f.offset).run P w = .ok b w) (he : (Op.equalIn d f.type a b).run P w = .ok r w) (hr : (Op.eqFields d xs ys fs).run P w = .ok s w) : (Op.eqFields d xs ys (f :: fs)).run P w = .ok (r && s) w := by
  have hn' : f.name ≠ "_" := by simpa using hn
  rw [Op.eqFields]
  simp only [if_pos hn', Sem.run_bind, ha, hb, he, Result.andThen_ok]
  cases r
  · simp
  · simpa using hr
theorem eqA_of {t : TypeId} {fs : Array Field} (hu : P.underlying t = some (.struct fs)) (hp : P.stoodInHeld t = false) (h : (Op.eqFields d xs ys fs.toList).run P w = .ok r w) : (Op.equalIn (d + 1) t (.agg xs) (.agg ys)).run P w = .ok r w := by
  have hf : P.fieldsOf t = fs := by simp [Program.fieldsOf, hu]
  rw [run_equalIn_struct (P := P) w d t xs ys (by rw [hf]; exact hu) hp, hf]
  exact h
end
end Go.Proofs.YtieekbdododkkaaDoorW.PrintWords
namespace Go.Proofs.YtieekbdododkkaaDoorW.PrintWords
set_option linter.unusedSimpArgs false
set_option linter.unusedVariables false
/-- More cells an element: told apart by the cells' list. -/
theorem Reps.front {α : Type} {R : α → List Value → Prop} {size : Nat} {ps : List α} {cs c all : List Value} {p : α} (hp : R p c) (hc : c.length = size) (h : Reps R size ps cs) (ha : c ++ cs = all) : Reps R size (p :: ps) all := by
  subst ha
  refine ⟨by rw [List.length_append, hc, h.1, List.length_cons, Nat.succ_mul, Nat.add_comm], fun j q hq => ?_⟩
  cases j with
  | zero =>
    simp only [List.getElem?_cons_zero, Option.some.injEq] at hq
    subst hq
    rw [Nat.zero_mul, List.drop_zero, List.take_append_of_le_length (by omega), List.take_of_length_le (by omega)]
    exact hp
  | succ j =>
    simp only [List.getElem?_cons_succ] at hq
    have h1 := h.2 j q hq
    rw [Nat.succ_mul, List.drop_append, List.drop_of_length_le (by rw [hc]; exact Nat.le_add_left _ _), List.nil_append, hc, Nat.add_sub_cancel]
    exact h1
theorem Reps.c2 {α : Type} {R : α → List Value → Prop} {ps : List α} {cs : List Value} {p : α} {va vb : Value} (hp : R p [va, vb]) (h : Reps R 2 ps cs) : Reps R 2 (p :: ps) (va :: vb :: cs) := Reps.front hp rfl h rfl
theorem Reps.c3 {α : Type} {R : α → List Value → Prop} {ps : List α} {cs : List Value} {p : α} {va vb vc : Value} (hp : R p [va, vb, vc]) (h : Reps R 3 ps cs) : Reps R 3 (p :: ps) (va :: vb :: vc :: cs) := Reps.front hp rfl h rfl
theorem Reps.c4 {α : Type} {R : α → List Value → Prop} {ps : List α} {cs : List Value} {p : α} {va vb vc vd : Value} (hp : R p [va, vb, vc, vd]) (h : Reps R 4 ps cs) : Reps R 4 (p :: ps) (va :: vb :: vc :: vd :: cs) := Reps.front hp rfl h rfl
theorem Reps.c5 {α : Type} {R : α → List Value → Prop} {ps : List α} {cs : List Value} {p : α} {va vb vc vd ve : Value} (hp : R p [va, vb, vc, vd, ve]) (h : Reps R 5 ps cs) : Reps R 5 (p :: ps) (va :: vb :: vc :: vd :: ve :: cs) := Reps.front hp rfl h rfl
theorem Reps.c6 {α : Type} {R : α → List Value → Prop} {ps : List α} {cs : List Value} {p : α} {va vb vc vd ve vf : Value} (hp : R p [va, vb, vc, vd, ve, vf]) (h : Reps R 6 ps cs) : Reps R 6 (p :: ps) (va :: vb :: vc :: vd :: ve :: vf :: cs) := Reps.front hp rfl h rfl
theorem Reps.c7 {α : Type} {R : α → List Value → Prop} {ps : List α} {cs : List Value} {p : α} {va vb vc vd ve vf vg : Value} (hp : R p [va, vb, vc, vd, ve, vf, vg]) (h : Reps R 7 ps cs) : Reps R 7 (p :: ps) (va :: vb :: vc :: vd :: ve :: vf :: vg :: cs) := Reps.front hp rfl h rfl
theorem Reps.c8 {α : Type} {R : α → List Value → Prop} {ps : List α} {cs : List Value} {p : α} {va vb vc vd ve vf vg vh : Value} (hp : R p [va, vb, vc, vd, ve, vf, vg, vh]) (h : Reps R 8 ps cs) : Reps R 8 (p :: ps) (va :: vb :: vc :: vd :: ve :: vf :: vg :: vh :: cs) := Reps.front hp rfl h rfl
theorem Reps.c9 {α : Type} {R : α → List Value → Prop} {ps : List α} {cs : List Value} {p : α} {va vb vc vd ve vf vg vh vi : Value} (hp : R p [va, vb, vc, vd, ve, vf, vg, vh, vi]) (h : Reps R 9 ps cs) : Reps R 9 (p :: ps) (va :: vb :: vc :: vd :: ve :: vf :: vg :: vh :: vi :: cs) := Reps.front hp rfl h rfl
theorem Reps.c10 {α : Type} {R : α → List Value → Prop} {ps : List α} {cs : List Value} {p : α} {va vb vc vd ve vf vg vh vi vj : Value} (hp : R p [va, vb, vc, vd, ve, vf, vg, vh, vi, vj]) (h : Reps R 10 ps cs) : Reps R 10 (p :: ps) (va :: vb :: vc :: vd :: ve :: vf :: vg :: vh :: vi :: vj :: cs) := Reps.front hp rfl h rfl
end Go.Proofs.YtieekbdododkkaaDoorW.PrintWords
namespace Go.Proofs.YtieekbdododkkaaDoor
set_option linter.unusedSimpArgs false
set_option linter.unusedVariables false
set_option maxRecDepth 100000
set_option maxHeartbeats 16000000
open Go.RowKit Go.Proofs.YtieekbdododkkaaDoorW.PrintWords Go.Proofs.YtieekbdododkkaaDoorW.PrintLast Go.Proofs.YtieekbdododkkaaDoorW.PrintMore
namespace H
attribute [local go_sem] max2_int min2_int max_two min_two max_three min_three max_four min_four
def errW : Option Int → Value
  | none => .nilIface
  | some c => .iface 85 (.int .i64 c)
theorem errW_none : errW none = .nilIface := rfl
theorem errW_some (c : Int) : errW (some c) = .iface 85 (.int .i64 c) := rfl
theorem info47 : (Tryd.prog.info? 47).map (fun i => (i.zero, i.size, i.bytes)) = some (some (.agg #[(.int .i64 0), (.int .i64 0), (.int .i64 0)]), 3, 24) := by kernel_rfl
theorem info99 : (Tryd.prog.info? 99).map (fun i => (i.zero, i.size, i.bytes)) = some (some (.agg #[(.int .i64 0), (.int .i64 0), (.int .i64 0), (.int .i64 0)]), 4, 32) := by kernel_rfl
structure S23 where
  f0 : Int
  f1 : Int
def z23 : S23 := ⟨(0 : Int), (0 : Int)⟩
structure S32 where
  f0 : Int
  f1 : S23
  f2 : S23
structure S99 where
  f0 : Int
  f1 : Int
  f2 : Int
  f3 : Int
def z99 : S99 := ⟨(0 : Int), (0 : Int), (0 : Int), (0 : Int)⟩
def k99 : Kd S99 := Kd.iso (Kd.pair (Kd.int .i64) (Kd.pair (Kd.int .i64) (Kd.pair (Kd.int .i64) (Kd.int .i64)))) (fun x : S99 => (x.f0, x.f1, x.f2, x.f3))
theorem k99_open {w : World} {x : S99} {cs : List Value} (h : k99.K w x cs) : cs = [.int .i64 x.f0, .int .i64 x.f1, .int .i64 x.f2, .int .i64 x.f3] := by
  obtain ⟨_, _, rfl, rfl, ⟨_, _, rfl, rfl, ⟨_, _, rfl, rfl, rfl⟩⟩⟩ := h
  exact rfl
theorem k99_mk (w : World) (x : S99)  : k99.K w x [.int .i64 x.f0, .int .i64 x.f1, .int .i64 x.f2, .int .i64 x.f3] := ⟨[.int .i64 x.f0], [.int .i64 x.f1, .int .i64 x.f2, .int .i64 x.f3], rfl, rfl, ⟨[.int .i64 x.f1], [.int .i64 x.f2, .int .i64 x.f3], rfl, rfl, ⟨[.int .i64 x.f2], [.int .i64 x.f3], rfl, rfl, rfl⟩⟩⟩
theorem k99_mkM (w : World) (base : Nat) (ok : Nat → Prop) (x : S99)  : k99.M w base ok x [.int .i64 x.f0, .int .i64 x.f1, .int .i64 x.f2, .int .i64 x.f3] := ⟨[.int .i64 x.f0], [.int .i64 x.f1, .int .i64 x.f2, .int .i64 x.f3], rfl, rfl, ⟨[.int .i64 x.f1], [.int .i64 x.f2, .int .i64 x.f3], rfl, rfl, ⟨[.int .i64 x.f2], [.int .i64 x.f3], rfl, rfl, rfl⟩⟩⟩
def rd_T99 (xs : List S99) (i : Int) : S99 := xs.getD i.toNat z99
theorem at_T99 {w : World} {A : Option Addr} {n : Nat} {xs : List S99} (h : Kd.C k99 w A n xs) (i : Int) (h0 : 0 ≤ i) (h1 : i < n) : ∃ ad , A = some ad ∧ w.cell? (ad.add (i.toNat * 4)) = some (.int .i64 (rd_T99 xs i).f0) ∧ w.cell? ⟨(ad.add (i.toNat * 4)).block, (ad.add (i.toNat * 4)).off + 1, none⟩ = some (.int .i64 (rd_T99 xs i).f1) ∧ w.cell? ⟨(ad.add (i.toNat * 4)).block, (ad.add (i.toNat * 4)).off + 2, none⟩ = some (.int .i64 (rd_T99 xs i).f2) ∧ w.cell? ⟨(ad.add (i.toNat * 4)).block, (ad.add (i.toNat * 4)).off + 3, none⟩ = some (.int .i64 (rd_T99 xs i).f3) := by
  obtain ⟨ad, c, e, _, hK, hc0⟩ := Kd.C_get h z99 i h0 h1
  have hc : ∀ j u, c[j]? = some u → w.cell? (ad.add (i.toNat * 4 + j)) = some u := hc0
  obtain rfl := k99_open hK
  exact ⟨ad, e, hc 0 _ rfl, by rw [← add_field _ _ 1 (by omega)]; exact hc 1 _ rfl, by rw [← add_field _ _ 2 (by omega)]; exact hc 2 _ rfl, by rw [← add_field _ _ 3 (by omega)]; exact hc 3 _ rfl⟩
structure S45 where
  f0 : Int
  f1 : Int
def z45 : S45 := ⟨(0 : Int), (0 : Int)⟩
def k45 : Kd S45 := Kd.iso (Kd.pair (Kd.int .i64) (Kd.int .i64)) (fun x : S45 => (x.f0, x.f1))
theorem k45_open {w : World} {x : S45} {cs : List Value} (h : k45.K w x cs) : cs = [.int .i64 x.f0, .int .i64 x.f1] := by
  obtain ⟨_, _, rfl, rfl, rfl⟩ := h
  exact rfl
theorem k45_openM {w : World} {base : Nat} {ok : Nat → Prop} {x : S45} {cs : List Value} (h : k45.M w base ok x cs) : cs = [.int .i64 x.f0, .int .i64 x.f1] := by
  obtain ⟨_, _, rfl, rfl, rfl⟩ := h
  exact rfl
theorem k45_mkM (w : World) (base : Nat) (ok : Nat → Prop) (x : S45)  : k45.M w base ok x [.int .i64 x.f0, .int .i64 x.f1] := ⟨[.int .i64 x.f0], [.int .i64 x.f1], rfl, rfl, rfl⟩
def rd_T45 (xs : List S45) (i : Int) : S45 := xs.getD i.toNat z45
theorem at_T45 {w : World} {A : Option Addr} {n : Nat} {xs : List S45} (h : Kd.C k45 w A n xs) (i : Int) (h0 : 0 ≤ i) (h1 : i < n) : ∃ ad , A = some ad ∧ w.cell? (ad.add (i.toNat * 2)) = some (.int .i64 (rd_T45 xs i).f0) ∧ w.cell? ⟨(ad.add (i.toNat * 2)).block, (ad.add (i.toNat * 2)).off + 1, none⟩ = some (.int .i64 (rd_T45 xs i).f1) := by
  obtain ⟨ad, c, e, _, hK, hc0⟩ := Kd.C_get h z45 i h0 h1
  have hc : ∀ j u, c[j]? = some u → w.cell? (ad.add (i.toNat * 2 + j)) = some u := hc0
  obtain rfl := k45_open hK
  exact ⟨ad, e, hc 0 _ rfl, by rw [← add_field _ _ 1 (by omega)]; exact hc 1 _ rfl⟩
structure S96 where
  f0 : S45
  f1 : S45
  f2 : S45
  f3 : S45
  f4 : S45
  f5 : S45
structure S47 where
  f0 : S45
  f1 : Int
def z47 : S47 := ⟨z45, (0 : Int)⟩
def k47 : Kd S47 := Kd.iso (Kd.pair k45 (Kd.int .i64)) (fun x : S47 => (x.f0, x.f1))
theorem k47_open {w : World} {x : S47} {cs : List Value} (h : k47.K w x cs) : cs = [.int .i64 x.f0.f0, .int .i64 x.f0.f1, .int .i64 x.f1] := by
  obtain ⟨_, _, rfl, s0, rfl⟩ := h
  obtain rfl := k45_open s0
  exact rfl
theorem k47_openM {w : World} {base : Nat} {ok : Nat → Prop} {x : S47} {cs : List Value} (h : k47.M w base ok x cs) : cs = [.int .i64 x.f0.f0, .int .i64 x.f0.f1, .int .i64 x.f1] := by
  obtain ⟨_, _, rfl, s0, rfl⟩ := h
  obtain rfl := k45_openM s0
  exact rfl
theorem k47_mkM (w : World) (base : Nat) (ok : Nat → Prop) (x : S47)  : k47.M w base ok x [.int .i64 x.f0.f0, .int .i64 x.f0.f1, .int .i64 x.f1] := ⟨[.int .i64 x.f0.f0, .int .i64 x.f0.f1], [.int .i64 x.f1], rfl, (k45_mkM w base ok x.f0 ), rfl⟩
def rd_T47 (xs : List S47) (i : Int) : S47 := xs.getD i.toNat z47
theorem at_T47 {w : World} {A : Option Addr} {n : Nat} {xs : List S47} (h : Kd.C k47 w A n xs) (i : Int) (h0 : 0 ≤ i) (h1 : i < n) : ∃ ad , A = some ad ∧ w.cell? (ad.add (i.toNat * 3)) = some (.int .i64 (rd_T47 xs i).f0.f0) ∧ w.cell? ⟨(ad.add (i.toNat * 3)).block, (ad.add (i.toNat * 3)).off + 1, none⟩ = some (.int .i64 (rd_T47 xs i).f0.f1) ∧ w.cell? ⟨(ad.add (i.toNat * 3)).block, (ad.add (i.toNat * 3)).off + 2, none⟩ = some (.int .i64 (rd_T47 xs i).f1) := by
  obtain ⟨ad, c, e, _, hK, hc0⟩ := Kd.C_get h z47 i h0 h1
  have hc : ∀ j u, c[j]? = some u → w.cell? (ad.add (i.toNat * 3 + j)) = some u := hc0
  obtain rfl := k47_open hK
  exact ⟨ad, e, hc 0 _ rfl, by rw [← add_field _ _ 1 (by omega)]; exact hc 1 _ rfl, by rw [← add_field _ _ 2 (by omega)]; exact hc 2 _ rfl⟩
structure S42 where
  f0 : Int
  f1 : Int
  f2 : Int
structure S25 where
  f0 : Int
  f1 : S23
  f2 : S23
def z25 : S25 := ⟨(0 : Int), z23, z23⟩
structure S61 where
  f0 : Int
  f1 : (List Int)
  f2 : (List Int)
structure S27 where
  f0 : Int
  f1 : Int
  f2 : Int
  f3 : Int
structure S75 where
  f0 : S27
  f1 : Int
theorem bA_ {w : World} {g : Nat} {o : Obj} (h : w.heap[g]? = some o) (o' : Obj) : (w.alloc o').heap[g]? = some o := blk_alloc h o'
theorem bD_ {w : World} {g : Nat} {o : Obj} (h : w.heap[g]? = some o) : w.drew.heap[g]? = some o := h
theorem bN_ {w : World} {g : Nat} {o : Obj} (h : w.heap[g]? = some o) (n : Nat) : (w.drewN n).heap[g]? = some o := h
theorem ba_ {w W : World} (h : Below w.heap.size w W) (o : Obj) : Below w.heap.size w (W.alloc o) := below_alloc h o
theorem bn_ {B : Nat} {w W : World} (h : Below B w W) (n : Nat) : Below B w (W.drewN n) := pw_below_drewN h n
theorem bd_ {B : Nat} {w W : World} (h : Below B w W) : Below B w W.drew := below_drew1 h
end H
open Go.ChangeMaps Go.MapKept Go.WideShapes
open Go.Maps (Keyed)
theorem ptLaidOut : laidOutB Tryd.prog = true := by kernel_rfl
theorem i64wf (a : Int) (h : -9223372036854775808 ≤ a) (h' : a ≤ 9223372036854775807) : (Lit.int .i64 a).wf = true := by
  simp only [Lit.wf, IntKind.min, IntKind.max, IntKind.signed, IntKind.bits, Bool.and_eq_true, decide_eq_true_eq, if_true]
  omega
section
open Go.Maps (Keyed)
section
variable {P : Program} {k e t : TypeId} {w : World} {b : Nat} {l : List (Value × Value)}
/-- 'm[key] = x' at a new key -/
theorem MapAt.put_none (h : MapAt P k w b l) (K : Keyed P k) (ht : P.underlying t = some (.map k e)) {key : Value} {kl : Lit} (hkey : keyOf P k key = some kl) (hn : ∀ p ∈ l, p.1 ≠ key) (x : Value) :
    ∃ w1, (Instr.mapUpdate t (.map (some b)) key x).run P w = .ok () w1 ∧ MapAt P k w1 b (l ++ [(key, x)]) ∧ w.mapTurned w1 b := by
  obtain ⟨es, clock, hb, hs, hk, hl, ⟨h1, h2⟩ | ⟨j, e0, h1, h2, h3, h4⟩⟩ := h.find K hkey
  · have hne : ∀ x ∈ es.toList, x.key ≠ key := fun x hx => h2 (x.key, x.val) (by rw [← hl]; exact List.mem_map.2 ⟨x, hx, rfl⟩)
    refine ⟨setBlock w b (.map (es.push ⟨key, x, clock⟩) (clock + 1)), ?_, ⟨_, _, heap_setBlock_same hb _, stamped_push (val := x) hs hne, fun y hy => ?_, by rw [Array.toList_push, List.map_append, hl]; rfl⟩, ⟨es, clock, _, _, hb, rfl⟩⟩
    · simp [Instr.mapUpdate, run_underlying ht, MapKept.run_getObj_map hb, K.check w _ hkey, h1, MapKept.run_setObj_map _ hb, Result.andThen, setBlock]
    · simp only [Array.toList_push, List.mem_append, List.mem_singleton] at hy
      rcases hy with hy | rfl
      · exact hk y hy
      · exact ⟨kl, hkey⟩
  · exact absurd rfl (hn _ (List.mem_of_getElem? h4))
/-- 'clear(m)' -/
theorem MapAt.wipe (h : MapAt P k w b l) (ht : P.underlying t = some (.map k e)) (ty : TypeId) :
    ∃ w1, (Builtin.clear_ #[t] ty #[.map (some b)]).run P w = .ok (.tuple #[]) w1 ∧ MapAt P k w1 b [] ∧ w.mapTurned w1 b := by
  obtain ⟨es, clock, hb, hs, hk, hl⟩ := h
  exact ⟨setBlock w b (.map #[] clock), by simp [Builtin.clear_, run_underlying ht, MapKept.run_getObj_map hb, MapKept.run_setObj_map _ hb, Result.andThen, setBlock], ⟨#[], clock, heap_setBlock_same hb _, ⟨by simp, by simp, by simp⟩, by simp, rfl⟩, ⟨es, clock, _, _, hb, rfl⟩⟩
end
end
open Go.Maps (Keyed)
theorem lkWide : (match Tryd.prog.underlying 123 with | some (.array _ _) | some (.struct _) => true | _ => false) = true := by rw [Tryd.underlying123]
theorem lkLaw : Go.WideMaps.KeyLaw Tryd.prog 123 := deep_law_laid ptLaidOut (m := 4) (by omega) (of_decide_eq_true (by kernel_rfl)) (by kernel_rfl) lkWide
theorem lkKeyed : Go.Maps.Keyed Tryd.prog 123 := Go.Maps.Keyed.of_law lkLaw
theorem lkCells : Tryd.prog.cellsOf 123 = 5 := by kernel_rfl
theorem l4Cells : Tryd.prog.cellsOf 56 = 4 := by kernel_rfl
theorem lfCells : Tryd.prog.cellsOf 55 = 1 := by kernel_rfl
theorem nCells : Tryd.prog.cellsOf 3 = 1 := by kernel_rfl
theorem u32wf (a : Int) (h : 0 ≤ a) (h' : a < 4294967296) : (Lit.int .u32 a).wf = true := by
  simp only [Lit.wf, IntKind.min, IntKind.max, IntKind.signed, IntKind.bits, Bool.and_eq_true, decide_eq_true_eq, if_true]
  simp
  omega
theorem lits_lf (n : Nat) (a : Int) (h : 0 ≤ a) (h' : a < 4294967296) : Tryd.prog.keyLits (n + 1) 55 [.int .u32 a] = some [.int .u32 a] := by
  simp [Program.keyLits, Tryd.underlying55, u32wf a h h']
theorem lits_n (n : Nat) (a : Int) (h : -9223372036854775808 ≤ a) (h' : a ≤ 9223372036854775807) : Tryd.prog.keyLits (n + 1) 3 [.int .i64 a] = some [.int .i64 a] := by
  simp [Program.keyLits, Tryd.underlying3, i64wf a h h']
/-- a key: four leaves, generations -/
abbrev K5 := Int × Int × Int × Int × Int
abbrev kv (k : K5) : Value := .agg #[.int .u32 k.1, .int .u32 k.2.1, .int .u32 k.2.2.1, .int .u32 k.2.2.2.1, .int .i64 k.2.2.2.2]
def inK (k : K5) : Prop := (0 ≤ k.1 ∧ k.1 < 4294967296) ∧ (0 ≤ k.2.1 ∧ k.2.1 < 4294967296) ∧ (0 ≤ k.2.2.1 ∧ k.2.2.1 < 4294967296) ∧ (0 ≤ k.2.2.2.1 ∧ k.2.2.2.1 < 4294967296) ∧ (0 ≤ k.2.2.2.2 ∧ k.2.2.2.2 ≤ 2)
theorem lits_l4 (n : Nat) (k : K5) (h : inK k) : Tryd.prog.keyLits (n + 2) 56 [.int .u32 k.1, .int .u32 k.2.1, .int .u32 k.2.2.1, .int .u32 k.2.2.2.1] = some [.int .u32 k.1, .int .u32 k.2.1, .int .u32 k.2.2.1, .int .u32 k.2.2.2.1] := by
  obtain ⟨h0, h1, h2, h3, _⟩ := h
  unfold Program.keyLits
  simp [Tryd.underlying56, l4Cells, lfCells, show List.range 4 = [0, 1, 2, 3] from rfl, lits_lf n _ h0.1 h0.2, lits_lf n _ h1.1 h1.2, lits_lf n _ h2.1 h2.2, lits_lf n _ h3.1 h3.2]
theorem lits_lk (n : Nat) (k : K5) (h : inK k) : Tryd.prog.keyLits (n + 3) 123 [.int .u32 k.1, .int .u32 k.2.1, .int .u32 k.2.2.1, .int .u32 k.2.2.2.1, .int .i64 k.2.2.2.2] = some [.int .u32 k.1, .int .u32 k.2.1, .int .u32 k.2.2.1, .int .u32 k.2.2.2.1, .int .i64 k.2.2.2.2] := by
  have h4 := lits_l4 n k h
  have h5 := lits_n (n + 1) k.2.2.2.2 (by have := h.2.2.2.2; omega) (by have := h.2.2.2.2; omega)
  unfold Program.keyLits
  simp [Tryd.underlying123, lkCells, l4Cells, nCells, h4, h5]
theorem lkFormed (a b c d e : Value) : (Value.agg #[a, b, c, d, e]).formed Tryd.prog 123 = true := by simp [Value.formed, Tryd.underlying123, lkCells]
theorem lkKey (k : K5) (h : inK k) : ∃ kl, keyOf Tryd.prog 123 (kv k) = some kl := by
  have hk : Tryd.prog.keyType 123 = true := by kernel_rfl
  have hs : ∃ n, Tryd.prog.types.size + 1 = n + 3 := ⟨Tryd.prog.types.size - 2, by have : 2 ≤ Tryd.prog.types.size := of_decide_eq_true (by kernel_rfl); omega⟩
  obtain ⟨n, hn⟩ := hs
  unfold keyOf kv
  simp only [Tryd.underlying123]
  rw [if_pos (by rw [hk, lkFormed]; rfl), hn]
  exact ⟨_, by rw [show (Value.agg #[Value.int .u32 k.1, Value.int .u32 k.2.1, Value.int .u32 k.2.2.1, Value.int .u32 k.2.2.2.1, Value.int .i64 k.2.2.2.2]).cells.toList = [.int .u32 k.1, .int .u32 k.2.1, .int .u32 k.2.2.1, .int .u32 k.2.2.2.1, .int .i64 k.2.2.2.2] from rfl, lits_lk n k h]; rfl⟩
theorem zeroLf (w : World) : (zeroValue 55).run Tryd.prog w = .ok (.int .u32 0) w := by kernel_rfl
/-- what is known already -/
abbrev Kn := List (K5 × Int)
def encK (p : K5 × Int) : Value × Value := (kv p.1, .int .u32 p.2)
def getK (L : Kn) (k : K5) : Option Int := (L.find? (fun p => decide (p.1 = k))).map (·.2)
theorem kv_ne {p q : K5} (h : p ≠ q) : kv p ≠ kv q := by
  intro e
  obtain ⟨a, b, c, d, n⟩ := p
  obtain ⟨a', b', c', d', n'⟩ := q
  simp at e
  obtain ⟨rfl, rfl, rfl, rfl, rfl⟩ := e
  exact h rfl
theorem look_K {w : World} {b : Nat} {L : Kn} (h : MapAt Tryd.prog 123 w b (L.map encK)) (k : K5) (hk : inK k) :
    (∀ v, getK L k = some v → (Instr.lookup 119 (.map (some b)) (kv k) true).run Tryd.prog w = .ok (.tuple #[.int .u32 v, .bool true]) w) ∧
    (getK L k = none → (Instr.lookup 119 (.map (some b)) (kv k) true).run Tryd.prog w = .ok (.tuple #[.int .u32 0, .bool false]) w ∧
      ∀ x, ∃ w1, (Instr.mapUpdate 119 (.map (some b)) (kv k) (.int .u32 x)).run Tryd.prog w = .ok () w1 ∧ MapAt Tryd.prog 123 w1 b ((L ++ [(k, x)]).map encK) ∧ w.mapTurned w1 b) := by
  obtain ⟨kl, hkl⟩ := lkKey k hk
  refine ⟨fun v hv => ?_, fun hv => ?_⟩
  · unfold getK at hv
    obtain ⟨p, hp, rfl⟩ := Option.map_eq_some_iff.1 hv
    obtain ⟨hpk, j, hj, hl, _⟩ := List.find?_eq_some_iff_getElem.1 hp
    have hpk' : p.1 = k := of_decide_eq_true hpk
    exact h.look_some true lkKeyed Tryd.underlying119 hkl (j := j) (by rw [List.getElem?_map, List.getElem?_eq_getElem hj, hl]; show some (kv p.1, _) = _; rw [hpk'])
  · have hn : ∀ p ∈ L.map encK, p.1 ≠ kv k := by
      intro p hp
      obtain ⟨x, hx, rfl⟩ := List.mem_map.1 hp
      unfold getK at hv
      have := List.find?_eq_none.1 (Option.map_eq_none_iff.1 hv) x hx
      exact kv_ne (by simpa using this)
    refine ⟨h.look_none true lkKeyed Tryd.underlying119 zeroLf hkl hn, fun x => ?_⟩
    obtain ⟨w1, h1, h2, h3⟩ := h.put_none lkKeyed Tryd.underlying119 hkl hn (.int .u32 x)
    exact ⟨w1, h1, by rw [List.map_append]; exact h2, h3⟩
namespace H
attribute [local go_sem] max2_int min2_int max_two min_two max_three min_three max_four min_four
def cell_around.l0 : Nat → List (S45) → List (S45) → List (S47) → Int → Int → Int → Int → Option ((List (S47)))
 | 0, _, _, _, _, _, _, _ => none
 | k + 1, x3, x4, x5, x16, x17, x109000, x109001 => if x17 < x16 then (if 0 ≤ x17 then (if x17 < (x3.length : Int) then (if x17 < (x4.length : Int) then ((some (([(⟨(⟨wrap64 (x109000 + ((rd_T45 x3 x17).f0)), wrap64 (x109001 + ((rd_T45 x3 x17).f1))⟩ : S45), 0⟩ : S47), (⟨(⟨wrap64 (x109000 + ((rd_T45 x4 x17).f0)), wrap64 (x109001 + ((rd_T45 x4 x17).f1))⟩ : S45), 1⟩ : S47)] : List (S47)) : List (S47))).bind fun y119 => (if x5.length + y119.length < 5864062014805 then (cell_around.l0 k x3 x4 (x5 ++ y119) x16 (wrap64 (x17 + 1)) x109000 x109001) else (none))) else (none)) else (none)) else (none)) else (some x5)
def cell_around.f (k : Nat) (a0_0 : Int) (a0_1 : Int) : Option ((List (S47))) := (some (([(⟨0, 0⟩ : S45), (⟨(-1), 0⟩ : S45), (⟨0, (-1)⟩ : S45)] : List (S45)) : List (S45))).bind fun y109 => (cell_around.l0 k y109 (([(⟨(-1), 0⟩ : S45), (⟨0, (-1)⟩ : S45), (⟨(-1), (-1)⟩ : S45)] : List (S45))) ([] : List (S47)) (y109.length : Int) 0 a0_0 a0_1)
def cell_around.T7 : Bool × List (List Nat × List Nat) := (true, [([], []), ([], []), ([1], [1]), ([], []), ([], []), ([3, 4], [3, 4]), ([5], [5]), ([6], [6]), ([2, 7], [2, 7]), ([], []), ([9], [9]), ([], []), ([], []), ([11, 12], [11, 12]), ([13], [13]), ([14], [14]), ([10, 15], [10, 15]), ([8, 16], [8, 16]), ([17], [17]), ([], []), ([19], [19]), ([], []), ([], []), ([21, 22], [21, 22]), ([23], [23]), ([24], [24]), ([20, 25], [20, 25]), ([], []), ([27], [27]), ([], []), ([], []), ([29, 30], [29, 30]), ([31], [31]), ([32], [32]), ([28, 33], [28, 33]), ([26, 34], [26, 34]), ([35], [35]), ([18, 36], [18, 36]), ([0, 37], [0, 37]), ([38, 38, 0, 1, 2, 3, 4, 5, 6, 7, 8, 9, 10, 11, 12, 13, 14, 15, 16, 17, 18, 19, 20, 21, 22, 23, 24, 25, 26, 27, 28, 29, 30, 31, 32, 33, 34, 35, 36, 37, 38], [0, 38])])
def cell_around.B7 : List Nat := [0, 0, 2, 0, 0, 24, 56, 120, 254, 0, 512, 0, 0, 6144, 14336, 30720, 65024, 131070, 262142, 0, 524288, 0, 0, 6291456, 14680064, 31457280, 66584576, 0, 134217728, 0, 0, 1610612736, 3758096384, 8053063680, 17045651456, 34359214080, 68718952448, 137438953470, 274877906943, 549755813887]
theorem cell_around.tab7 : rtab .any (opsOf Tryd.f76 7) = cell_around.T7 := by kernel_rfl
theorem cell_around.bits7 : waitsOk cell_around.T7.2 cell_around.B7 = true := by kernel_rfl
theorem cell_around.calls (k : Nat) (a0_0 : Int) (a0_1 : Int) (r : List (S47)) (w : World) (h : cell_around.f k a0_0 a0_1 = some r) :
  Calls Tryd.prog 76 #[.agg #[.int .i64 a0_0, .int .i64 a0_1]] w fun e w' => ∃ v0_ : Value, e = .returned (v0_) ∧ Kd.R k47 47 w' w.heap.size (fun _ => True) v0_ r ∧ Below w.heap.size w w' := by
 have hu45 := Tryd.underlying45
 have hu47 := Tryd.underlying47
 have HB := Aside0.mk (Below.refl w.heap.size w)
 have H : ((some (([(⟨0, 0⟩ : S45), (⟨(-1), 0⟩ : S45), (⟨0, (-1)⟩ : S45)] : List (S45)) : List (S45))).bind fun y109 => (cell_around.l0 k y109 (([(⟨(-1), 0⟩ : S45), (⟨0, (-1)⟩ : S45), (⟨(-1), (-1)⟩ : S45)] : List (S45))) ([] : List (S47)) (y109.length : Int) 0 a0_0 a0_1)) = some r := h
 clear h
 obtain ⟨y109, hy109⟩ : ∃ y_ : List (S45), y_ = (([(⟨0, 0⟩ : S45), (⟨(-1), 0⟩ : S45), (⟨0, (-1)⟩ : S45)] : List (S45))) := ⟨_, rfl⟩
 replace H : (cell_around.l0 k y109 (([(⟨(-1), 0⟩ : S45), (⟨0, (-1)⟩ : S45), (⟨(-1), (-1)⟩ : S45)] : List (S45))) ([] : List (S47)) (y109.length : Int) 0 a0_0 a0_1) = some r := by first | (rw [hy109]; with_reducible exact H) | (have H2_ := (Option.bind_some _ _).symm.trans H; rw [hy109]; with_reducible exact H2_) | (have H2_ := (Option.bind_some _ _).symm.trans H; with_reducible exact H2_) | with_reducible exact H | (rw [hy109]; exact H) | exact H
 have Ny109 := Aside0.mk hy109
 clear hy109
 obtain ⟨y112, hy112⟩ : ∃ y_ : List (S45), y_ = (([(⟨(-1), 0⟩ : S45), (⟨0, (-1)⟩ : S45), (⟨(-1), (-1)⟩ : S45)] : List (S45))) := ⟨_, rfl⟩
 replace H : (cell_around.l0 k y109 y112 ([] : List (S47)) (y109.length : Int) 0 a0_0 a0_1) = some r := by first | (rw [hy112]; with_reducible exact H) | (have H2_ := (Option.bind_some _ _).symm.trans H; rw [hy112]; with_reducible exact H2_) | (have H2_ := (Option.bind_some _ _).symm.trans H; with_reducible exact H2_) | with_reducible exact H | (rw [hy112]; exact H) | exact H
 have Ny112 := Aside0.mk hy112
 clear hy112
 have H' := Aside0.mk H
 clear H
 go_enter Tryd.func76, Tryd.ntmps76
 go_wp2_with (first | ((with_reducible refine gate_dst (N := 1) rfl ?_); refine box_event ?hg (N := 1) ?hd (cs := #[.int .i64 a0_0, .int .i64 a0_1]) (t := 45) ?hr ?_; (case hd => rfl); (case hg => rfl); (case hr => first | (go_simp; done) | (go_simp; rfl)); intro gb108 hg w2 hbox hb; have n0_ := Aside0.mk (below_step (by repeat (first | (with_reducible first | exact HB.out | apply ba_ | apply bn_ | apply bd_) | exact HB.out)) hb); have n1_ := Aside0.mk (hbox); have n2_ := Aside0.mk ((by rw [hg]; exact (below_size (by repeat (first | (with_reducible first | exact HB.out | apply ba_ | apply bn_ | apply bd_) | exact HB.out))) : w.heap.size ≤ gb108)); have n3_ := Aside0.mk ((by rw [hg]; exact (below_size (by repeat (first | (with_reducible first | exact HB.out | apply ba_ | apply bn_ | apply bd_) | exact HB.out))) : w.heap.size ≤ gb108)); clear HB; have HB := n0_; have BK108 := n1_; have GW108 := n2_; have GE108 := n3_; clear n0_ n1_ n2_ n3_; clear hb hbox hg) | ((with_reducible refine gate_dst (N := 10) rfl ?_); refine Kd.R_lit k45 _ 45 ?hg (N := 10) ?hd (xs := ([(⟨0, 0⟩ : S45), (⟨(-1), 0⟩ : S45), (⟨0, (-1)⟩ : S45)] : List (S45))) (inner := [.int .i64 0, .int .i64 0, .int .i64 (-1), .int .i64 0, .int .i64 0, .int .i64 (-1)]) (ok := fun _ => True) (okp := fun _ => True) ?hr ?hp (fun _ hk => hk) trivial (Below.refl _ _) (Nat.le_refl _) (by simp) ?_; (case hd => rfl); (case hg => rfl); (case hr => first | (go_simp; done) | (go_simp; rfl)); (case hp => exact (Reps.c2 (show Kd.M k45 _ _ _ (⟨0, 0⟩ : S45) [.int .i64 0, .int .i64 0] from (k45_mkM _ _ _ (⟨0, 0⟩ : S45) )) (Reps.c2 (show Kd.M k45 _ _ _ (⟨(-1), 0⟩ : S45) [.int .i64 (-1), .int .i64 0] from (k45_mkM _ _ _ (⟨(-1), 0⟩ : S45) )) (Reps.c2 (show Kd.M k45 _ _ _ (⟨0, (-1)⟩ : S45) [.int .i64 0, .int .i64 (-1)] from (k45_mkM _ _ _ (⟨0, (-1)⟩ : S45) )) (Reps.none _ _))))); intro v110 w3 ho4 hb hg_ hnew_; clear hg_ hnew_; (first | rw [← Ny109.out] at ho4 | (simp only [Int.reduceToNat] at ho4; rw [← Ny109.out] at ho4)); have n0_ := Aside0.mk (Kd.R_lower (Kd.R_newB ho4 (g := gb108) (o := .cells #[.int .i64 a0_0, .int .i64 a0_1] 45 (0, 0)) (by (with_reducible repeat (first | apply bN_ | apply bD_ | apply bA_)); exact BK108.out)) (below_size (by repeat (first | (with_reducible first | exact HB.out | apply ba_ | apply bn_ | apply bd_ | refine below_set ?_ GE108.out) | exact HB.out)))); have n1_ := Aside0.mk (blk_below (g := gb108) (o := .cells #[.int .i64 a0_0, .int .i64 a0_1] 45 (0, 0)) (by (with_reducible repeat (first | apply bN_ | apply bD_ | apply bA_)); exact BK108.out) hb); have n2_ := Aside0.mk (below_step (by repeat (first | (with_reducible first | exact HB.out | apply ba_ | apply bn_ | apply bd_ | refine below_set ?_ GE108.out) | exact HB.out)) hb); clear BK108; clear HB; have HO111 := n0_; have BK108 := n1_; have HB := n2_; clear n0_ n1_ n2_; clear hb ho4) | ((with_reducible refine gate_dst (N := 14) rfl ?_); refine Kd.R_lit k45 _ 45 ?hg (N := 14) ?hd (xs := ([(⟨(-1), 0⟩ : S45), (⟨0, (-1)⟩ : S45), (⟨(-1), (-1)⟩ : S45)] : List (S45))) (inner := [.int .i64 (-1), .int .i64 0, .int .i64 0, .int .i64 (-1), .int .i64 (-1), .int .i64 (-1)]) (ok := fun _ => True) (okp := fun _ => True) ?hr ?hp (fun _ hk => hk) trivial (Below.refl _ _) (Nat.le_refl _) (by simp) ?_; (case hd => rfl); (case hg => rfl); (case hr => first | (go_simp; done) | (go_simp; rfl)); (case hp => exact (Reps.c2 (show Kd.M k45 _ _ _ (⟨(-1), 0⟩ : S45) [.int .i64 (-1), .int .i64 0] from (k45_mkM _ _ _ (⟨(-1), 0⟩ : S45) )) (Reps.c2 (show Kd.M k45 _ _ _ (⟨0, (-1)⟩ : S45) [.int .i64 0, .int .i64 (-1)] from (k45_mkM _ _ _ (⟨0, (-1)⟩ : S45) )) (Reps.c2 (show Kd.M k45 _ _ _ (⟨(-1), (-1)⟩ : S45) [.int .i64 (-1), .int .i64 (-1)] from (k45_mkM _ _ _ (⟨(-1), (-1)⟩ : S45) )) (Reps.none _ _))))); intro v113 w5 ho6 hb hg_ hnew_; clear hg_ hnew_; (first | rw [← Ny112.out] at ho6 | (simp only [Int.reduceToNat] at ho6; rw [← Ny112.out] at ho6)); have n0_ := Aside0.mk (Kd.R_elder' (by (with_reducible repeat (first | apply Kd.R_alloc | apply Kd.R_drewN | apply Kd.R_drew)); exact HO111.out) (Kd.R_base ho6) hb); have n1_ := Aside0.mk (Kd.R_lower (Kd.R_newB (Kd.R_new' ho6 (Kd.R_lt (by (with_reducible repeat (first | apply Kd.R_alloc | apply Kd.R_drewN | apply Kd.R_drew)); exact HO111.out))) (g := gb108) (o := .cells #[.int .i64 a0_0, .int .i64 a0_1] 45 (0, 0)) (by (with_reducible repeat (first | apply bN_ | apply bD_ | apply bA_)); exact BK108.out)) (below_size (by repeat (first | (with_reducible first | exact HB.out | apply ba_ | apply bn_ | apply bd_ | refine below_set ?_ GE108.out) | exact HB.out)))); have n2_ := Aside0.mk (blk_below (g := gb108) (o := .cells #[.int .i64 a0_0, .int .i64 a0_1] 45 (0, 0)) (by (with_reducible repeat (first | apply bN_ | apply bD_ | apply bA_)); exact BK108.out) hb); have n3_ := Aside0.mk (below_step (by repeat (first | (with_reducible first | exact HB.out | apply ba_ | apply bn_ | apply bd_ | refine below_set ?_ GE108.out) | exact HB.out)) hb); clear HO111; clear BK108; clear HB; have HO111 := n0_; have HO114 := n1_; have BK108 := n2_; have HB := n3_; clear n0_ n1_ n2_ n3_; clear hb ho6; obtain ⟨Ao7, co7, eo7⟩ := Kd.R_slice HO111.out; subst eo7))
 go_loopg [5, 17] k (fun kq v5 v17 w' => ∃ (x5_1 : List (S47)) (x17_1 : Int), v17 = .int .i64 x17_1 ∧ Aside0 (cell_around.l0 kq y109 y112 x5_1 (y109.length : Int) x17_1 a0_0 a0_1 = some r) ∧ Aside0 (kq ≤ k) ∧ Aside0 (Kd.R k45 45 w' w.heap.size (fun k_ => some k_ ≠ (v113 : Value).ownBlock ∧ k_ ≠ gb108) (.slice Ao7 y109.length co7) y109) ∧ Aside0 (Kd.R k45 45 w' w.heap.size (fun k_ => some k_ ≠ ((.slice Ao7 y109.length co7) : Value).ownBlock ∧ k_ ≠ gb108) v113 y112) ∧ Aside0 (Kd.R k47 47 w' w.heap.size (fun _ => True) v5 x5_1) ∧ Aside0 (w'.heap[gb108]? = some (.cells #[.int .i64 a0_0, .int .i64 a0_1] 45 (0, 0))) ∧ Aside0 (Below w.heap.size w w'))
 case atStart => exact ⟨(([] : List (S47))), (0), (by first | rfl | (simp; done) | (simp [*]; done)), H', ⟨Nat.le_refl _⟩, ⟨by (with_reducible repeat (first | apply Kd.R_alloc | apply Kd.R_drewN | apply Kd.R_drew)); exact Kd.R_mono HO111.out (fun _ hk => ⟨hk.2, hk.1.2⟩)⟩, ⟨by (with_reducible repeat (first | apply Kd.R_alloc | apply Kd.R_drewN | apply Kd.R_drew)); exact Kd.R_mono HO114.out (fun _ hk => ⟨hk.1.2, hk.2⟩)⟩, ⟨by first | exact Kd.R_nil _ _ _ _ _ | exact Kd.N_nil _ _ _ _ _ | exact Kd.V_nil _ _ _ _ _ | exact Kd.Q_nil _ _ _ _ _ | exact Kd.S_nil _ _ _ _ _⟩, ⟨by (with_reducible repeat (first | apply bN_ | apply bD_ | apply bA_)); exact BK108.out⟩, ⟨by repeat (first | (with_reducible first | exact HB.out | apply ba_ | apply bn_ | apply bd_ | refine below_set ?_ GE108.out) | exact HB.out)⟩⟩
 case round =>
  clear H'
  try clear c2
  try clear p2
  try clear c7
  obtain ⟨x5_1, x17_1, rfl, HA, HK1, HO_3, HO_4, HO_5, BK108, HB⟩ := hrel
  cases gk with
  | zero => exact absurd HA.out (by simp [cell_around.l0])
  | succ k1 =>
   have H := HA.out
   clear HA
   simp only [cell_around.l0] at H
   by_cases c8 : x17_1 < (y109.length : Int)
   ·
    rw [if_pos c8] at H
    have c8b0 : decide (x17_1 < (y109.length : Int)) = true := decide_eq_true c8
    clear c8
    by_cases c9 : 0 ≤ x17_1
    ·
     rw [if_pos c9] at H
     have c9b0 : decide (0 ≤ x17_1) = true := decide_eq_true c9
     clear c9
     by_cases c10 : x17_1 < (y109.length : Int)
     ·
      rw [if_pos c10] at H
      have c10b0 : decide (x17_1 < (y109.length : Int)) = true := decide_eq_true c10
      clear c10
      by_cases c11 : x17_1 < (y112.length : Int)
      ·
       rw [if_pos c11] at H
       have c11b0 : decide (x17_1 < (y112.length : Int)) = true := decide_eq_true c11
       clear c11
       obtain ⟨y119, hy119⟩ : ∃ y_ : List (S47), y_ = (([(⟨(⟨wrap64 (a0_0 + ((rd_T45 y109 x17_1).f0)), wrap64 (a0_1 + ((rd_T45 y109 x17_1).f1))⟩ : S45), 0⟩ : S47), (⟨(⟨wrap64 (a0_0 + ((rd_T45 y112 x17_1).f0)), wrap64 (a0_1 + ((rd_T45 y112 x17_1).f1))⟩ : S45), 1⟩ : S47)] : List (S47))) := ⟨_, rfl⟩
       replace H : (if x5_1.length + y119.length < 5864062014805 then (cell_around.l0 k1 y109 y112 (x5_1 ++ y119) (y109.length : Int) (wrap64 (x17_1 + 1)) a0_0 a0_1) else (none)) = some r := by first | (rw [hy119]; with_reducible exact H) | (have H2_ := (Option.bind_some _ _).symm.trans H; rw [hy119]; with_reducible exact H2_) | (have H2_ := (Option.bind_some _ _).symm.trans H; with_reducible exact H2_) | with_reducible exact H | (rw [hy119]; exact H) | exact H
       have Ny119 := Aside0.mk hy119
       clear hy119
       by_cases c12 : x5_1.length + y119.length < 5864062014805
       ·
        rw [if_pos c12] at H
        have LMc12 := Aside0.mk c12
        clear c12
        obtain ⟨y122, hy122⟩ : ∃ y_ : List (S47), y_ = (x5_1 ++ y119) := ⟨_, rfl⟩
        replace H : (cell_around.l0 k1 y109 y112 y122 (y109.length : Int) (wrap64 (x17_1 + 1)) a0_0 a0_1) = some r := by first | (rw [hy122]; with_reducible exact H) | (have H2_ := (Option.bind_some _ _).symm.trans H; rw [hy122]; with_reducible exact H2_) | (have H2_ := (Option.bind_some _ _).symm.trans H; with_reducible exact H2_) | with_reducible exact H | (rw [hy122]; exact H) | exact H
        have Ny122 := Aside0.mk hy122
        clear hy122
        have H' := Aside0.mk H
        clear H
        try go_wp2
        have n0_ := Aside0.mk (Kd.R_drew HO_3.out)
        have n1_ := Aside0.mk (Kd.R_drew HO_4.out)
        have n2_ := Aside0.mk (Kd.R_drew HO_5.out)
        have n3_ := Aside0.mk (blk_drew BK108.out)
        have n4_ := Aside0.mk (below_drew1 HB.out)
        clear HO_3
        clear HO_4
        clear HO_5
        clear BK108
        clear HB
        have HO_3 := n0_
        have HO_4 := n1_
        have HO_5 := n2_
        have BK108 := n3_
        have HB := n4_
        clear n0_ n1_ n2_ n3_ n4_
        have p115 : 0 ≤ (x17_1 : Int) := of_decide_eq_true (by first | (with_reducible assumption) | assumption)
        have q115 : x17_1 < (y109.length : Int) := of_decide_eq_true (by first | (with_reducible assumption) | assumption)
        obtain ⟨ad115, e115, hx115_0, hx115_1⟩ := at_T45 (Kd.R_reads' HO_3.out).2.2 x17_1 p115 q115
        cases e115
        replace p115 := eq_true p115
        replace q115 := eq_true q115
        have p116 : 0 ≤ (x17_1 : Int) := of_decide_eq_true (by first | (with_reducible assumption) | assumption)
        have q116 : x17_1 < (y109.length : Int) := of_decide_eq_true (by first | (with_reducible assumption) | assumption)
        obtain ⟨ad116, e116, hx116_0, hx116_1⟩ := at_T45 (Kd.R_reads' HO_3.out).2.2 x17_1 p116 q116
        obtain rfl : ad115 = ad116 := (by injection e116)
        replace p116 := eq_true p116
        replace q116 := eq_true q116
        obtain ⟨Ao14, co14, eo14⟩ := Kd.R_slice HO_4.out
        (first | subst eo14 | (injection eo14 with f1_ f2_ f3_; have f4_ := f1_.symm; have f5_ := f3_.symm; clear f1_ f2_ f3_; subst f4_; subst f5_))
        have p117 : 0 ≤ (x17_1 : Int) := of_decide_eq_true (by first | (with_reducible assumption) | assumption)
        have q117 : x17_1 < (y112.length : Int) := of_decide_eq_true (by first | (with_reducible assumption) | assumption)
        obtain ⟨ad117, e117, hx117_0, hx117_1⟩ := at_T45 (Kd.R_reads' HO_4.out).2.2 x17_1 p117 q117
        cases e117
        replace p117 := eq_true p117
        replace q117 := eq_true q117
        have p118 : 0 ≤ (x17_1 : Int) := of_decide_eq_true (by first | (with_reducible assumption) | assumption)
        have q118 : x17_1 < (y112.length : Int) := of_decide_eq_true (by first | (with_reducible assumption) | assumption)
        obtain ⟨ad118, e118, hx118_0, hx118_1⟩ := at_T45 (Kd.R_reads' HO_4.out).2.2 x17_1 p118 q118
        obtain rfl : ad117 = ad118 := (by injection e118)
        replace p118 := eq_true p118
        replace q118 := eq_true q118
        refine start_ (n := 40) (S := fun w' => w'.cell? ⟨gb108, 0, none⟩ = some (.int .i64 a0_0) ∧ w'.cell? ⟨gb108, 1, none⟩ = some (.int .i64 a0_1) ∧ w'.cell? (ad115.add ((x17_1).toNat * 2)) = some (.int .i64 ((rd_T45 y109 x17_1).f0)) ∧ w'.cell? ⟨(ad115.add ((x17_1).toNat * 2)).block, (ad115.add ((x17_1).toNat * 2)).off + 1, none⟩ = some (.int .i64 ((rd_T45 y109 x17_1).f1)) ∧ w'.cell? (ad115.add ((x17_1).toNat * 2)) = some (.int .i64 ((rd_T45 y109 x17_1).f0)) ∧ w'.cell? ⟨(ad115.add ((x17_1).toNat * 2)).block, (ad115.add ((x17_1).toNat * 2)).off + 1, none⟩ = some (.int .i64 ((rd_T45 y109 x17_1).f1)) ∧ w'.cell? (ad117.add ((x17_1).toNat * 2)) = some (.int .i64 ((rd_T45 y112 x17_1).f0)) ∧ w'.cell? ⟨(ad117.add ((x17_1).toNat * 2)).block, (ad117.add ((x17_1).toNat * 2)).off + 1, none⟩ = some (.int .i64 ((rd_T45 y112 x17_1).f1)) ∧ w'.cell? (ad117.add ((x17_1).toNat * 2)) = some (.int .i64 ((rd_T45 y112 x17_1).f0)) ∧ w'.cell? ⟨(ad117.add ((x17_1).toNat * 2)).block, (ad117.add ((x17_1).toNat * 2)).off + 1, none⟩ = some (.int .i64 ((rd_T45 y112 x17_1).f1))) (ds := [38]) #[false, false, false, false, false, false, false, false, false, false, false, false, false, false, false, false, false, false, false, false, false, false, false, false, false, false, false, false, false, false, false, false, false, false, false, false, false, false, false, false] (by kernel_rfl) rfl rfl ⟨(blk_cell BK108.out 0).trans rfl, (blk_cell BK108.out 1).trans rfl, hx115_0, hx115_1, hx116_0, hx116_1, hx117_0, hx117_1, hx118_0, hx118_1⟩ (fun hHeld => ?_); refine with_tabW cell_around.tab7 cell_around.bits7 (fun HT_ HW_ => ?_)
        generalize wr.drew = w13 at HO_3 HO_4 HO_5 BK108 HB hx115_0 hx115_1 hx116_0 hx116_1 hx117_0 hx117_1 hx118_0 hx118_1 hHeld ⊢
        refine pure_ (i := 0) (N := some 20) (v := ?_) (a' := ?_) #[true, false, false, false, false, false, false, false, false, false, false, false, false, false, false, false, false, false, false, false, false, false, false, false, false, false, false, false, false, false, false, false, false, false, false, false, false, false, false, false] rfl rfl (any_of HT_.out (by kernel_rfl)) (fun _ _ _ h => h) (Or.inl ⟨by rfl, ?_⟩) ?_ ?_
        rotate_left
        ·
         intro w'
         go_simp
         with_reducible rfl
        rotate_left
        ·
         simp only [Act.put, List.setIfInBounds_toArray, List.set_cons_zero, List.set_cons_succ, i64_w, i32_w]
         rfl
        refine pure_ (i := 1) (N := some 21) (v := ?_) (a' := ?_) #[true, true, false, false, false, false, false, false, false, false, false, false, false, false, false, false, false, false, false, false, false, false, false, false, false, false, false, false, false, false, false, false, false, false, false, false, false, false, false, false] rfl rfl (any_of HT_.out (by kernel_rfl)) (fun _ _ _ h => h) (Or.inl ⟨by rfl, ?_⟩) ?_ ?_
        rotate_left
        ·
         intro w'
         go_simp
         with_reducible rfl
        rotate_left
        ·
         simp only [Act.put, List.setIfInBounds_toArray, List.set_cons_zero, List.set_cons_succ, i64_w, i32_w]
         rfl
        refine pure_ (i := 3) (N := some 23) (v := ?_) (a' := ?_) #[true, true, false, true, false, false, false, false, false, false, false, false, false, false, false, false, false, false, false, false, false, false, false, false, false, false, false, false, false, false, false, false, false, false, false, false, false, false, false, false] rfl rfl (any_of HT_.out (by kernel_rfl)) (fun _ _ _ h => h) (Or.inl ⟨by rfl, ?_⟩) ?_ ?_
        rotate_left
        ·
         intro w'
         go_simp
         with_reducible rfl
        rotate_left
        ·
         simp only [Act.put, List.setIfInBounds_toArray, List.set_cons_zero, List.set_cons_succ, i64_w, i32_w]
         rfl
        refine pure_ (i := 4) (N := some 24) (v := ?_) (a' := ?_) #[true, true, false, true, true, false, false, false, false, false, false, false, false, false, false, false, false, false, false, false, false, false, false, false, false, false, false, false, false, false, false, false, false, false, false, false, false, false, false, false] rfl rfl (any_of HT_.out (by kernel_rfl)) (fun _ _ _ h => h) (Or.inl ⟨by rfl, ?_⟩) ?_ ?_
        rotate_left
        ·
         intro w'
         go_simp
         with_reducible rfl
        rotate_left
        ·
         simp only [Act.put, List.setIfInBounds_toArray, List.set_cons_zero, List.set_cons_succ, i64_w, i32_w]
         rfl
        refine pure_ (i := 5) (N := some 25) (v := ?_) (a' := ?_) #[true, true, false, true, true, true, false, false, false, false, false, false, false, false, false, false, false, false, false, false, false, false, false, false, false, false, false, false, false, false, false, false, false, false, false, false, false, false, false, false] rfl rfl (any_of HT_.out (by kernel_rfl)) (fun _ _ _ h => h) (Or.inl ⟨by rfl, ?_⟩) ?_ ?_
        rotate_left
        ·
         intro w'
         go_simp
         with_reducible rfl
        rotate_left
        ·
         simp only [Act.put, List.setIfInBounds_toArray, List.set_cons_zero, List.set_cons_succ, i64_w, i32_w]
         rfl
        refine pure_ (i := 6) (N := some 26) (v := ?_) (a' := ?_) #[true, true, false, true, true, true, true, false, false, false, false, false, false, false, false, false, false, false, false, false, false, false, false, false, false, false, false, false, false, false, false, false, false, false, false, false, false, false, false, false] rfl rfl (any_of HT_.out (by kernel_rfl)) (fun _ _ _ h => h) (Or.inl ⟨by rfl, ?_⟩) ?_ ?_
        rotate_left
        ·
         intro w'
         go_simp
         with_reducible rfl
        rotate_left
        ·
         simp only [Act.put, List.setIfInBounds_toArray, List.set_cons_zero, List.set_cons_succ, i64_w, i32_w]
         rfl
        refine pure_ (i := 9) (N := some 29) (v := ?_) (a' := ?_) #[true, true, false, true, true, true, true, false, false, true, false, false, false, false, false, false, false, false, false, false, false, false, false, false, false, false, false, false, false, false, false, false, false, false, false, false, false, false, false, false] rfl rfl (any_of HT_.out (by kernel_rfl)) (fun _ _ _ h => h) (Or.inl ⟨by rfl, ?_⟩) ?_ ?_
        rotate_left
        ·
         intro w'
         go_simp
         with_reducible rfl
        rotate_left
        ·
         simp only [Act.put, List.setIfInBounds_toArray, List.set_cons_zero, List.set_cons_succ, i64_w, i32_w]
         rfl
        refine pure_ (i := 11) (N := some 31) (v := ?_) (a' := ?_) #[true, true, false, true, true, true, true, false, false, true, false, true, false, false, false, false, false, false, false, false, false, false, false, false, false, false, false, false, false, false, false, false, false, false, false, false, false, false, false, false] rfl rfl (any_of HT_.out (by kernel_rfl)) (fun _ _ _ h => h) (Or.inl ⟨by rfl, ?_⟩) ?_ ?_
        rotate_left
        ·
         intro w'
         go_simp
         with_reducible rfl
        rotate_left
        ·
         simp only [Act.put, List.setIfInBounds_toArray, List.set_cons_zero, List.set_cons_succ, i64_w, i32_w]
         rfl
        refine pure_ (i := 12) (N := some 32) (v := ?_) (a' := ?_) #[true, true, false, true, true, true, true, false, false, true, false, true, true, false, false, false, false, false, false, false, false, false, false, false, false, false, false, false, false, false, false, false, false, false, false, false, false, false, false, false] rfl rfl (any_of HT_.out (by kernel_rfl)) (fun _ _ _ h => h) (Or.inl ⟨by rfl, ?_⟩) ?_ ?_
        rotate_left
        ·
         intro w'
         go_simp
         with_reducible rfl
        rotate_left
        ·
         simp only [Act.put, List.setIfInBounds_toArray, List.set_cons_zero, List.set_cons_succ, i64_w, i32_w]
         rfl
        refine pure_ (i := 13) (N := some 33) (v := ?_) (a' := ?_) #[true, true, false, true, true, true, true, false, false, true, false, true, true, true, false, false, false, false, false, false, false, false, false, false, false, false, false, false, false, false, false, false, false, false, false, false, false, false, false, false] rfl rfl (any_of HT_.out (by kernel_rfl)) (fun _ _ _ h => h) (Or.inl ⟨by rfl, ?_⟩) ?_ ?_
        rotate_left
        ·
         intro w'
         go_simp
         with_reducible rfl
        rotate_left
        ·
         simp only [Act.put, List.setIfInBounds_toArray, List.set_cons_zero, List.set_cons_succ, i64_w, i32_w]
         rfl
        refine pure_ (i := 14) (N := some 34) (v := ?_) (a' := ?_) #[true, true, false, true, true, true, true, false, false, true, false, true, true, true, true, false, false, false, false, false, false, false, false, false, false, false, false, false, false, false, false, false, false, false, false, false, false, false, false, false] rfl rfl (any_of HT_.out (by kernel_rfl)) (fun _ _ _ h => h) (Or.inl ⟨by rfl, ?_⟩) ?_ ?_
        rotate_left
        ·
         intro w'
         go_simp
         with_reducible rfl
        rotate_left
        ·
         simp only [Act.put, List.setIfInBounds_toArray, List.set_cons_zero, List.set_cons_succ, i64_w, i32_w]
         rfl
        refine pure_ (i := 19) (N := some 39) (v := ?_) (a' := ?_) #[true, true, false, true, true, true, true, false, false, true, false, true, true, true, true, false, false, false, false, true, false, false, false, false, false, false, false, false, false, false, false, false, false, false, false, false, false, false, false, false] rfl rfl (any_of HT_.out (by kernel_rfl)) (fun _ _ _ h => h) (Or.inl ⟨by rfl, ?_⟩) ?_ ?_
        rotate_left
        ·
         intro w'
         go_simp
         with_reducible rfl
        rotate_left
        ·
         simp only [Act.put, List.setIfInBounds_toArray, List.set_cons_zero, List.set_cons_succ, i64_w, i32_w]
         rfl
        refine pure_ (i := 21) (N := some 41) (v := ?_) (a' := ?_) #[true, true, false, true, true, true, true, false, false, true, false, true, true, true, true, false, false, false, false, true, false, true, false, false, false, false, false, false, false, false, false, false, false, false, false, false, false, false, false, false] rfl rfl (any_of HT_.out (by kernel_rfl)) (fun _ _ _ h => h) (Or.inl ⟨by rfl, ?_⟩) ?_ ?_
        rotate_left
        ·
         intro w'
         go_simp
         with_reducible rfl
        rotate_left
        ·
         simp only [Act.put, List.setIfInBounds_toArray, List.set_cons_zero, List.set_cons_succ, i64_w, i32_w]
         rfl
        refine pure_ (i := 22) (N := some 42) (v := ?_) (a' := ?_) #[true, true, false, true, true, true, true, false, false, true, false, true, true, true, true, false, false, false, false, true, false, true, true, false, false, false, false, false, false, false, false, false, false, false, false, false, false, false, false, false] rfl rfl (any_of HT_.out (by kernel_rfl)) (fun _ _ _ h => h) (Or.inl ⟨by rfl, ?_⟩) ?_ ?_
        rotate_left
        ·
         intro w'
         go_simp
         with_reducible rfl
        rotate_left
        ·
         simp only [Act.put, List.setIfInBounds_toArray, List.set_cons_zero, List.set_cons_succ, i64_w, i32_w]
         rfl
        refine pure_ (i := 23) (N := some 43) (v := ?_) (a' := ?_) #[true, true, false, true, true, true, true, false, false, true, false, true, true, true, true, false, false, false, false, true, false, true, true, true, false, false, false, false, false, false, false, false, false, false, false, false, false, false, false, false] rfl rfl (any_of HT_.out (by kernel_rfl)) (fun _ _ _ h => h) (Or.inl ⟨by rfl, ?_⟩) ?_ ?_
        rotate_left
        ·
         intro w'
         go_simp
         with_reducible rfl
        rotate_left
        ·
         simp only [Act.put, List.setIfInBounds_toArray, List.set_cons_zero, List.set_cons_succ, i64_w, i32_w]
         rfl
        refine pure_ (i := 24) (N := some 44) (v := ?_) (a' := ?_) #[true, true, false, true, true, true, true, false, false, true, false, true, true, true, true, false, false, false, false, true, false, true, true, true, true, false, false, false, false, false, false, false, false, false, false, false, false, false, false, false] rfl rfl (any_of HT_.out (by kernel_rfl)) (fun _ _ _ h => h) (Or.inl ⟨by rfl, ?_⟩) ?_ ?_
        rotate_left
        ·
         intro w'
         go_simp
         with_reducible rfl
        rotate_left
        ·
         simp only [Act.put, List.setIfInBounds_toArray, List.set_cons_zero, List.set_cons_succ, i64_w, i32_w]
         rfl
        refine pure_ (i := 27) (N := some 47) (v := ?_) (a' := ?_) #[true, true, false, true, true, true, true, false, false, true, false, true, true, true, true, false, false, false, false, true, false, true, true, true, true, false, false, true, false, false, false, false, false, false, false, false, false, false, false, false] rfl rfl (any_of HT_.out (by kernel_rfl)) (fun _ _ _ h => h) (Or.inl ⟨by rfl, ?_⟩) ?_ ?_
        rotate_left
        ·
         intro w'
         go_simp
         with_reducible rfl
        rotate_left
        ·
         simp only [Act.put, List.setIfInBounds_toArray, List.set_cons_zero, List.set_cons_succ, i64_w, i32_w]
         rfl
        refine pure_ (i := 29) (N := some 49) (v := ?_) (a' := ?_) #[true, true, false, true, true, true, true, false, false, true, false, true, true, true, true, false, false, false, false, true, false, true, true, true, true, false, false, true, false, true, false, false, false, false, false, false, false, false, false, false] rfl rfl (any_of HT_.out (by kernel_rfl)) (fun _ _ _ h => h) (Or.inl ⟨by rfl, ?_⟩) ?_ ?_
        rotate_left
        ·
         intro w'
         go_simp
         with_reducible rfl
        rotate_left
        ·
         simp only [Act.put, List.setIfInBounds_toArray, List.set_cons_zero, List.set_cons_succ, i64_w, i32_w]
         rfl
        refine pure_ (i := 30) (N := some 50) (v := ?_) (a' := ?_) #[true, true, false, true, true, true, true, false, false, true, false, true, true, true, true, false, false, false, false, true, false, true, true, true, true, false, false, true, false, true, true, false, false, false, false, false, false, false, false, false] rfl rfl (any_of HT_.out (by kernel_rfl)) (fun _ _ _ h => h) (Or.inl ⟨by rfl, ?_⟩) ?_ ?_
        rotate_left
        ·
         intro w'
         go_simp
         with_reducible rfl
        rotate_left
        ·
         simp only [Act.put, List.setIfInBounds_toArray, List.set_cons_zero, List.set_cons_succ, i64_w, i32_w]
         rfl
        refine pure_ (i := 31) (N := some 51) (v := ?_) (a' := ?_) #[true, true, false, true, true, true, true, false, false, true, false, true, true, true, true, false, false, false, false, true, false, true, true, true, true, false, false, true, false, true, true, true, false, false, false, false, false, false, false, false] rfl rfl (any_of HT_.out (by kernel_rfl)) (fun _ _ _ h => h) (Or.inl ⟨by rfl, ?_⟩) ?_ ?_
        rotate_left
        ·
         intro w'
         go_simp
         with_reducible rfl
        rotate_left
        ·
         simp only [Act.put, List.setIfInBounds_toArray, List.set_cons_zero, List.set_cons_succ, i64_w, i32_w]
         rfl
        refine pure_ (i := 32) (N := some 52) (v := ?_) (a' := ?_) #[true, true, false, true, true, true, true, false, false, true, false, true, true, true, true, false, false, false, false, true, false, true, true, true, true, false, false, true, false, true, true, true, true, false, false, false, false, false, false, false] rfl rfl (any_of HT_.out (by kernel_rfl)) (fun _ _ _ h => h) (Or.inl ⟨by rfl, ?_⟩) ?_ ?_
        rotate_left
        ·
         intro w'
         go_simp
         with_reducible rfl
        rotate_left
        ·
         simp only [Act.put, List.setIfInBounds_toArray, List.set_cons_zero, List.set_cons_succ, i64_w, i32_w]
         rfl
        refine take_ (i := 2) (N := some 22) (v := ?_) (a' := ?_) #[true, true, true, true, true, true, true, false, false, true, false, true, true, true, true, false, false, false, false, true, false, true, true, true, true, false, false, true, false, true, true, true, true, false, false, false, false, false, false, false] rfl rfl (take_ofW HT_.out HW_.out (by kernel_rfl)) (fun _ _ _ h => h) (Or.inl ⟨by rfl, ?_⟩) hHeld ?_ ?_
        rotate_left
        ·
         rintro w' ⟨s0, s1, s2, s3, s4, s5, s6, s7, s8, s9⟩
         go_simp
         with_reducible rfl
        rotate_left
        ·
         simp only [Act.put, List.setIfInBounds_toArray, List.set_cons_zero, List.set_cons_succ, i64_w, i32_w]
         rfl
        refine take_ (i := 7) (N := some 27) (v := ?_) (a' := ?_) #[true, true, true, true, true, true, true, true, false, true, false, true, true, true, true, false, false, false, false, true, false, true, true, true, true, false, false, true, false, true, true, true, true, false, false, false, false, false, false, false] rfl rfl (take_ofW HT_.out HW_.out (by kernel_rfl)) (fun _ _ _ h => h) (Or.inl ⟨by rfl, ?_⟩) hHeld ?_ ?_
        rotate_left
        ·
         rintro w' ⟨s0, s1, s2, s3, s4, s5, s6, s7, s8, s9⟩
         go_simp
         with_reducible rfl
        rotate_left
        ·
         simp only [Act.put, List.setIfInBounds_toArray, List.set_cons_zero, List.set_cons_succ, i64_w, i32_w]
         rfl
        refine pure_ (i := 8) (N := some 28) (v := ?_) (a' := ?_) #[true, true, true, true, true, true, true, true, true, true, false, true, true, true, true, false, false, false, false, true, false, true, true, true, true, false, false, true, false, true, true, true, true, false, false, false, false, false, false, false] rfl rfl (any_of HT_.out (by kernel_rfl)) (fun _ _ _ h => h) (Or.inl ⟨by rfl, ?_⟩) ?_ ?_
        rotate_left
        ·
         intro w'
         go_simp
         with_reducible rfl
        rotate_left
        ·
         simp only [Act.put, List.setIfInBounds_toArray, List.set_cons_zero, List.set_cons_succ, i64_w, i32_w]
         rfl
        refine take_ (i := 10) (N := some 30) (v := ?_) (a' := ?_) #[true, true, true, true, true, true, true, true, true, true, true, true, true, true, true, false, false, false, false, true, false, true, true, true, true, false, false, true, false, true, true, true, true, false, false, false, false, false, false, false] rfl rfl (take_ofW HT_.out HW_.out (by kernel_rfl)) (fun _ _ _ h => h) (Or.inl ⟨by rfl, ?_⟩) hHeld ?_ ?_
        rotate_left
        ·
         rintro w' ⟨s0, s1, s2, s3, s4, s5, s6, s7, s8, s9⟩
         go_simp
         with_reducible rfl
        rotate_left
        ·
         simp only [Act.put, List.setIfInBounds_toArray, List.set_cons_zero, List.set_cons_succ, i64_w, i32_w]
         rfl
        refine take_ (i := 15) (N := some 35) (v := ?_) (a' := ?_) #[true, true, true, true, true, true, true, true, true, true, true, true, true, true, true, true, false, false, false, true, false, true, true, true, true, false, false, true, false, true, true, true, true, false, false, false, false, false, false, false] rfl rfl (take_ofW HT_.out HW_.out (by kernel_rfl)) (fun _ _ _ h => h) (Or.inl ⟨by rfl, ?_⟩) hHeld ?_ ?_
        rotate_left
        ·
         rintro w' ⟨s0, s1, s2, s3, s4, s5, s6, s7, s8, s9⟩
         go_simp
         with_reducible rfl
        rotate_left
        ·
         simp only [Act.put, List.setIfInBounds_toArray, List.set_cons_zero, List.set_cons_succ, i64_w, i32_w]
         rfl
        refine pure_ (i := 16) (N := some 36) (v := ?_) (a' := ?_) #[true, true, true, true, true, true, true, true, true, true, true, true, true, true, true, true, true, false, false, true, false, true, true, true, true, false, false, true, false, true, true, true, true, false, false, false, false, false, false, false] rfl rfl (any_of HT_.out (by kernel_rfl)) (fun _ _ _ h => h) (Or.inl ⟨by rfl, ?_⟩) ?_ ?_
        rotate_left
        ·
         intro w'
         go_simp
         with_reducible rfl
        rotate_left
        ·
         simp only [Act.put, List.setIfInBounds_toArray, List.set_cons_zero, List.set_cons_succ, i64_w, i32_w]
         rfl
        refine pure_ (i := 17) (N := some 37) (v := ?_) (a' := ?_) #[true, true, true, true, true, true, true, true, true, true, true, true, true, true, true, true, true, true, false, true, false, true, true, true, true, false, false, true, false, true, true, true, true, false, false, false, false, false, false, false] rfl rfl (any_of HT_.out (by kernel_rfl)) (fun _ _ _ h => h) (Or.inl ⟨by rfl, ?_⟩) ?_ ?_
        rotate_left
        ·
         intro w'
         go_simp
         with_reducible rfl
        rotate_left
        ·
         simp only [Act.put, List.setIfInBounds_toArray, List.set_cons_zero, List.set_cons_succ, i64_w, i32_w]
         rfl
        refine pure_ (i := 18) (N := some 38) (v := ?_) (a' := ?_) #[true, true, true, true, true, true, true, true, true, true, true, true, true, true, true, true, true, true, true, true, false, true, true, true, true, false, false, true, false, true, true, true, true, false, false, false, false, false, false, false] rfl rfl (any_of HT_.out (by kernel_rfl)) (fun _ _ _ h => h) (Or.inl ⟨by rfl, ?_⟩) ?_ ?_
        rotate_left
        ·
         intro w'
         go_simp
         with_reducible rfl
        rotate_left
        ·
         simp only [Act.put, List.setIfInBounds_toArray, List.set_cons_zero, List.set_cons_succ, i64_w, i32_w]
         rfl
        refine take_ (i := 20) (N := some 40) (v := ?_) (a' := ?_) #[true, true, true, true, true, true, true, true, true, true, true, true, true, true, true, true, true, true, true, true, true, true, true, true, true, false, false, true, false, true, true, true, true, false, false, false, false, false, false, false] rfl rfl (take_ofW HT_.out HW_.out (by kernel_rfl)) (fun _ _ _ h => h) (Or.inl ⟨by rfl, ?_⟩) hHeld ?_ ?_
        rotate_left
        ·
         rintro w' ⟨s0, s1, s2, s3, s4, s5, s6, s7, s8, s9⟩
         go_simp
         with_reducible rfl
        rotate_left
        ·
         simp only [Act.put, List.setIfInBounds_toArray, List.set_cons_zero, List.set_cons_succ, i64_w, i32_w]
         rfl
        refine take_ (i := 25) (N := some 45) (v := ?_) (a' := ?_) #[true, true, true, true, true, true, true, true, true, true, true, true, true, true, true, true, true, true, true, true, true, true, true, true, true, true, false, true, false, true, true, true, true, false, false, false, false, false, false, false] rfl rfl (take_ofW HT_.out HW_.out (by kernel_rfl)) (fun _ _ _ h => h) (Or.inl ⟨by rfl, ?_⟩) hHeld ?_ ?_
        rotate_left
        ·
         rintro w' ⟨s0, s1, s2, s3, s4, s5, s6, s7, s8, s9⟩
         go_simp
         with_reducible rfl
        rotate_left
        ·
         simp only [Act.put, List.setIfInBounds_toArray, List.set_cons_zero, List.set_cons_succ, i64_w, i32_w]
         rfl
        refine pure_ (i := 26) (N := some 46) (v := ?_) (a' := ?_) #[true, true, true, true, true, true, true, true, true, true, true, true, true, true, true, true, true, true, true, true, true, true, true, true, true, true, true, true, false, true, true, true, true, false, false, false, false, false, false, false] rfl rfl (any_of HT_.out (by kernel_rfl)) (fun _ _ _ h => h) (Or.inl ⟨by rfl, ?_⟩) ?_ ?_
        rotate_left
        ·
         intro w'
         go_simp
         with_reducible rfl
        rotate_left
        ·
         simp only [Act.put, List.setIfInBounds_toArray, List.set_cons_zero, List.set_cons_succ, i64_w, i32_w]
         rfl
        refine take_ (i := 28) (N := some 48) (v := ?_) (a' := ?_) #[true, true, true, true, true, true, true, true, true, true, true, true, true, true, true, true, true, true, true, true, true, true, true, true, true, true, true, true, true, true, true, true, true, false, false, false, false, false, false, false] rfl rfl (take_ofW HT_.out HW_.out (by kernel_rfl)) (fun _ _ _ h => h) (Or.inl ⟨by rfl, ?_⟩) hHeld ?_ ?_
        rotate_left
        ·
         rintro w' ⟨s0, s1, s2, s3, s4, s5, s6, s7, s8, s9⟩
         go_simp
         with_reducible rfl
        rotate_left
        ·
         simp only [Act.put, List.setIfInBounds_toArray, List.set_cons_zero, List.set_cons_succ, i64_w, i32_w]
         rfl
        refine take_ (i := 33) (N := some 53) (v := ?_) (a' := ?_) #[true, true, true, true, true, true, true, true, true, true, true, true, true, true, true, true, true, true, true, true, true, true, true, true, true, true, true, true, true, true, true, true, true, true, false, false, false, false, false, false] rfl rfl (take_ofW HT_.out HW_.out (by kernel_rfl)) (fun _ _ _ h => h) (Or.inl ⟨by rfl, ?_⟩) hHeld ?_ ?_
        rotate_left
        ·
         rintro w' ⟨s0, s1, s2, s3, s4, s5, s6, s7, s8, s9⟩
         go_simp
         with_reducible rfl
        rotate_left
        ·
         simp only [Act.put, List.setIfInBounds_toArray, List.set_cons_zero, List.set_cons_succ, i64_w, i32_w]
         rfl
        refine pure_ (i := 34) (N := some 54) (v := ?_) (a' := ?_) #[true, true, true, true, true, true, true, true, true, true, true, true, true, true, true, true, true, true, true, true, true, true, true, true, true, true, true, true, true, true, true, true, true, true, true, false, false, false, false, false] rfl rfl (any_of HT_.out (by kernel_rfl)) (fun _ _ _ h => h) (Or.inl ⟨by rfl, ?_⟩) ?_ ?_
        rotate_left
        ·
         intro w'
         go_simp
         with_reducible rfl
        rotate_left
        ·
         simp only [Act.put, List.setIfInBounds_toArray, List.set_cons_zero, List.set_cons_succ, i64_w, i32_w]
         rfl
        refine pure_ (i := 35) (N := some 55) (v := ?_) (a' := ?_) #[true, true, true, true, true, true, true, true, true, true, true, true, true, true, true, true, true, true, true, true, true, true, true, true, true, true, true, true, true, true, true, true, true, true, true, true, false, false, false, false] rfl rfl (any_of HT_.out (by kernel_rfl)) (fun _ _ _ h => h) (Or.inl ⟨by rfl, ?_⟩) ?_ ?_
        rotate_left
        ·
         intro w'
         go_simp
         with_reducible rfl
        rotate_left
        ·
         simp only [Act.put, List.setIfInBounds_toArray, List.set_cons_zero, List.set_cons_succ, i64_w, i32_w]
         rfl
        refine pure_ (i := 36) (N := some 56) (v := ?_) (a' := ?_) #[true, true, true, true, true, true, true, true, true, true, true, true, true, true, true, true, true, true, true, true, true, true, true, true, true, true, true, true, true, true, true, true, true, true, true, true, true, false, false, false] rfl rfl (any_of HT_.out (by kernel_rfl)) (fun _ _ _ h => h) (Or.inl ⟨by rfl, ?_⟩) ?_ ?_
        rotate_left
        ·
         intro w'
         go_simp
         with_reducible rfl
        rotate_left
        ·
         simp only [Act.put, List.setIfInBounds_toArray, List.set_cons_zero, List.set_cons_succ, i64_w, i32_w]
         rfl
        refine one_ (i := 37) (N := some 57) #[true, true, true, true, true, true, true, true, true, true, true, true, true, true, true, true, true, true, true, true, true, true, true, true, true, true, true, true, true, true, true, true, true, true, true, true, true, true, false, false] rfl rfl (one_of HT_.out (by kernel_rfl)) (by decide) (fun K hK => ?_)
        refine Kd.R_lit_step k47 _ 47 ?hg (N := 57) ?hd (xs := ([(⟨(⟨wrap64 (a0_0 + ((rd_T45 y109 x17_1).f0)), wrap64 (a0_1 + ((rd_T45 y109 x17_1).f1))⟩ : S45), 0⟩ : S47), (⟨(⟨wrap64 (a0_0 + ((rd_T45 y112 x17_1).f0)), wrap64 (a0_1 + ((rd_T45 y112 x17_1).f1))⟩ : S45), 1⟩ : S47)] : List (S47))) (inner := [.int .i64 (wrap64 (a0_0 + ((rd_T45 y109 x17_1).f0))), .int .i64 (wrap64 (a0_1 + ((rd_T45 y109 x17_1).f1))), .int .i64 0, .int .i64 (wrap64 (a0_0 + ((rd_T45 y112 x17_1).f0))), .int .i64 (wrap64 (a0_1 + ((rd_T45 y112 x17_1).f1))), .int .i64 1]) (ok := fun _ => True) (okp := fun _ => True) ?hr ?hp (fun _ hk => hk) trivial (Below.refl _ _) (Nat.le_refl _) (by simp) ?_; (case hd => rfl); (case hg => rfl); (case hr => first | (go_simp; done) | (go_simp; rfl)); (case hp => exact (Reps.c3 (show Kd.M k47 _ _ _ (⟨(⟨wrap64 (a0_0 + ((rd_T45 y109 x17_1).f0)), wrap64 (a0_1 + ((rd_T45 y109 x17_1).f1))⟩ : S45), 0⟩ : S47) [.int .i64 (wrap64 (a0_0 + ((rd_T45 y109 x17_1).f0))), .int .i64 (wrap64 (a0_1 + ((rd_T45 y109 x17_1).f1))), .int .i64 0] from (k47_mkM _ _ _ (⟨(⟨wrap64 (a0_0 + ((rd_T45 y109 x17_1).f0)), wrap64 (a0_1 + ((rd_T45 y109 x17_1).f1))⟩ : S45), 0⟩ : S47) )) (Reps.c3 (show Kd.M k47 _ _ _ (⟨(⟨wrap64 (a0_0 + ((rd_T45 y112 x17_1).f0)), wrap64 (a0_1 + ((rd_T45 y112 x17_1).f1))⟩ : S45), 1⟩ : S47) [.int .i64 (wrap64 (a0_0 + ((rd_T45 y112 x17_1).f0))), .int .i64 (wrap64 (a0_1 + ((rd_T45 y112 x17_1).f1))), .int .i64 1] from (k47_mkM _ _ _ (⟨(⟨wrap64 (a0_0 + ((rd_T45 y112 x17_1).f0)), wrap64 (a0_1 + ((rd_T45 y112 x17_1).f1))⟩ : S45), 1⟩ : S47) )) (Reps.none _ _))))
        intro v120 w15 ho16 hb hg_ hnew_
        have HS2_ := (hb.cell (World.block_lt_of_cell? _ _ (hHeld.2.2.1))).trans (hHeld.2.2.1)
        have HS3_ := (hb.cell (World.block_lt_of_cell? _ _ (hHeld.2.2.2.1))).trans (hHeld.2.2.2.1)
        have HS4_ := (hb.cell (World.block_lt_of_cell? _ _ (hHeld.2.2.2.2.1))).trans (hHeld.2.2.2.2.1)
        have HS5_ := (hb.cell (World.block_lt_of_cell? _ _ (hHeld.2.2.2.2.2.1))).trans (hHeld.2.2.2.2.2.1)
        have HS6_ := (hb.cell (World.block_lt_of_cell? _ _ (hHeld.2.2.2.2.2.2.1))).trans (hHeld.2.2.2.2.2.2.1)
        have HS7_ := (hb.cell (World.block_lt_of_cell? _ _ (hHeld.2.2.2.2.2.2.2.1))).trans (hHeld.2.2.2.2.2.2.2.1)
        have HS8_ := (hb.cell (World.block_lt_of_cell? _ _ (hHeld.2.2.2.2.2.2.2.2.1))).trans (hHeld.2.2.2.2.2.2.2.2.1)
        have HS9_ := (hb.cell (World.block_lt_of_cell? _ _ (hHeld.2.2.2.2.2.2.2.2.2))).trans (hHeld.2.2.2.2.2.2.2.2.2)
        clear hg_ hnew_
        (first | rw [← Ny119.out] at ho16 | (simp only [Int.reduceToNat] at ho16; rw [← Ny119.out] at ho16))
        have n0_ := Aside0.mk (Kd.R_below (by (with_reducible repeat (first | apply Kd.R_alloc | apply Kd.R_drewN | apply Kd.R_drew)); exact HO_3.out) hb)
        have n1_ := Aside0.mk (Kd.R_below (by (with_reducible repeat (first | apply Kd.R_alloc | apply Kd.R_drewN | apply Kd.R_drew)); exact HO_4.out) hb)
        have n2_ := Aside0.mk (Kd.R_elder' (by (with_reducible repeat (first | apply Kd.R_alloc | apply Kd.R_drewN | apply Kd.R_drew)); exact HO_5.out) (Kd.R_base ho16) hb)
        have n3_ := Aside0.mk (Kd.R_lower (Kd.R_new' ho16 (Kd.R_lt (by (with_reducible repeat (first | apply Kd.R_alloc | apply Kd.R_drewN | apply Kd.R_drew)); exact HO_5.out))) (below_size (by repeat (first | (with_reducible first | exact HB.out | apply ba_ | apply bn_ | apply bd_ | refine below_set ?_ GE108.out) | exact HB.out))))
        have n4_ := Aside0.mk (blk_below (g := gb108) (o := .cells #[.int .i64 a0_0, .int .i64 a0_1] 45 (0, 0)) (by (with_reducible repeat (first | apply bN_ | apply bD_ | apply bA_)); exact BK108.out) hb)
        have n5_ := Aside0.mk (below_step (by repeat (first | (with_reducible first | exact HB.out | apply ba_ | apply bn_ | apply bd_ | refine below_set ?_ GE108.out) | exact HB.out)) hb)
        clear HO_3
        clear HO_4
        clear HO_5
        clear BK108
        clear HB
        have HO_3 := n0_
        have HO_4 := n1_
        have HO_5 := n2_
        have HO121 := n3_
        have BK108 := n4_
        have HB := n5_
        clear n0_ n1_ n2_ n3_ n4_ n5_
        clear hb ho16
        obtain ⟨Ao18, co18, eo18⟩ := Kd.R_slice HO121.out
        (first | subst eo18 | (injection eo18 with f1_ f2_ f3_; have f4_ := f1_.symm; have f5_ := f3_.symm; clear f1_ f2_ f3_; subst f4_; subst f5_))
        refine hK.out _ _ ⟨(blk_cell BK108.out 0).trans rfl, (blk_cell BK108.out 1).trans rfl, HS2_, HS3_, HS4_, HS5_, HS6_, HS7_, HS8_, HS9_⟩ (fun hHeld => ?_)
        clear hK K
        refine norm_ (a' := ?_) ?_ ?_
        rotate_left
        ·
         show Act.put _ (some 57) _ = _
         simp only [Act.put, List.setIfInBounds_toArray, List.set_cons_zero, List.set_cons_succ, i64_w, i32_w]
         rfl
        refine last_ (i := 38) (N := some 58) #[true, true, true, true, true, true, true, true, true, true, true, true, true, true, true, true, true, true, true, true, true, true, true, true, true, true, true, true, true, true, true, true, true, true, true, true, true, true, true, false] rfl rfl (one_of HT_.out (by kernel_rfl)) (by decide) (fun K hK => ?_)
        refine Kd.R_append_rows_step k47 (w0 := w) w.heap.size (by rfl) (.tmp 20) (.tmp 57) 100 47 (.agg #[(.int .i64 0), (.int .i64 0), (.int .i64 0)]) 24 rfl Tryd.underlying100 info47 rfl (by decide) (by omega) u5 x5_1 y119 _ _ _ (fun k_ => some k_ ≠ (.slice Ao18 y119.length co18 : Value).ownBlock) (fun _ => False) rfl rfl ?aO ?aR (fun _ _ h => h) (fun _ h => h.elim) ?aF ?aB ?aS ?aL ?_
        (case aR => repeat (first | exact (Kd.R_reads' HO121.out).2.2 | (with_reducible refine Kd.C_alloc ?_ _) | (with_reducible refine Kd.C_drewN ?_ _) | (with_reducible refine Kd.C_drew ?_)))
        (case aB => exact (by repeat (first | (with_reducible first | exact HB.out | apply ba_ | apply bn_ | apply bd_ | refine below_set ?_ GE108.out) | exact HB.out)))
        (case aF => exact (fun k_ hk => Kd.fresh' (Kd.R_lt (by (with_reducible repeat (first | apply Kd.R_alloc | apply Kd.R_drewN | apply Kd.R_drew)); exact HO121.out)) k_ hk))
        (case aO => exact (by (with_reducible repeat (first | apply Kd.R_alloc | apply Kd.R_drewN | apply Kd.R_drew)); exact Kd.R_mono HO_5.out (fun _ hk => hk.2)))
        (case aS => exact (below_size (by repeat (first | (with_reducible first | exact HB.out | apply ba_ | apply bn_ | apply bd_ | refine below_set ?_ GE108.out) | exact HB.out))))
        (case aL => have := LMc12.out; omega)
        intro v123 w17 ho hb hg hat
        rw [← Ny122.out] at ho
        have n0_ := Aside0.mk (Kd.R_over' (by (with_reducible repeat (first | apply Kd.R_alloc | apply Kd.R_drewN | apply Kd.R_drew)); exact HO_3.out) (Kd.R_typed (by (with_reducible repeat (first | apply Kd.R_alloc | apply Kd.R_drewN | apply Kd.R_drew)); exact HO_5.out)) (by decide) hg)
        have n1_ := Aside0.mk (Kd.R_over' (by (with_reducible repeat (first | apply Kd.R_alloc | apply Kd.R_drewN | apply Kd.R_drew)); exact HO_4.out) (Kd.R_typed (by (with_reducible repeat (first | apply Kd.R_alloc | apply Kd.R_drewN | apply Kd.R_drew)); exact HO_5.out)) (by decide) hg)
        have n2_ := Aside0.mk (blk_grown (g := gb108) (o := .cells #[.int .i64 a0_0, .int .i64 a0_1] 45 (0, 0)) (by (with_reducible repeat (first | apply bN_ | apply bD_ | apply bA_)); exact BK108.out) hg (Kd.R_ne HO_5.out BK108.out (by decide)))
        have n3_ := Aside0.mk (Kd.R_after (ok := (fun _ => True)) (by (with_reducible repeat (first | apply Kd.R_alloc | apply Kd.R_drewN | apply Kd.R_drew)); exact HO121.out) hg hat)
        have n4_ := Aside0.mk (hb)
        have n5_ := Aside0.mk (ho)
        clear HO_3
        clear HO_4
        clear BK108
        clear HO121
        clear HB
        clear HO_5
        have HO_3 := n0_
        have HO_4 := n1_
        have BK108 := n2_
        have HO121 := n3_
        have HB := n4_
        have HO124 := n5_
        clear n0_ n1_ n2_ n3_ n4_ n5_
        clear ho hb hg hat
        refine hK.out _ _ ?_
        clear hK K
        refine norm_ (a' := ?_) ?_ ?_
        rotate_left
        ·
         show Act.put _ (some 58) _ = _
         simp only [Act.put, List.setIfInBounds_toArray, List.set_cons_zero, List.set_cons_succ, i64_w, i32_w]
         rfl
        refine pure_ (i := 39) (N := some 5) (v := ?_) (a' := ?_) #[true, true, true, true, true, true, true, true, true, true, true, true, true, true, true, true, true, true, true, true, true, true, true, true, true, true, true, true, true, true, true, true, true, true, true, true, true, true, true, true] rfl rfl (any_of HT_.out (by kernel_rfl)) (fun _ _ _ h => h) (Or.inl ⟨by rfl, ?_⟩) ?_ ?_
        rotate_left
        ·
         intro w'
         go_simp
         with_reducible rfl
        rotate_left
        ·
         simp only [Act.put, List.setIfInBounds_toArray, List.set_cons_zero, List.set_cons_succ, i64_w, i32_w]
         rfl
        refine done_ (done_of HT_.out (by kernel_rfl)) ?_
        try go_wp2
        go_roundg k1
        case measure => have := HK1.out; omega
        case rel => exact ⟨(y122), (wrap64 (x17_1 + 1)), (by first | rfl | (simp; done) | (simp [*]; done)), H', ⟨by have := HK1.out; omega⟩, ⟨by (with_reducible repeat (first | apply Kd.R_alloc | apply Kd.R_drewN | apply Kd.R_drew)); exact HO_3.out⟩, ⟨by (with_reducible repeat (first | apply Kd.R_alloc | apply Kd.R_drewN | apply Kd.R_drew)); exact HO_4.out⟩, ⟨by (with_reducible repeat (first | apply Kd.R_alloc | apply Kd.R_drewN | apply Kd.R_drew)); exact Kd.R_mono HO124.out (fun _ hk => trivial)⟩, ⟨by (with_reducible repeat (first | apply bN_ | apply bD_ | apply bA_)); exact BK108.out⟩, ⟨by repeat (first | (with_reducible first | exact HB.out | apply ba_ | apply bn_ | apply bd_ | refine below_set ?_ GE108.out) | exact HB.out)⟩⟩
       ·
        rw [if_neg c12] at H
        exact absurd H (by simp)
      ·
       rw [if_neg c11] at H
       exact absurd H (by simp)
     ·
      rw [if_neg c10] at H
      exact absurd H (by simp)
    ·
     rw [if_neg c9] at H
     exact absurd H (by simp)
   ·
    rw [if_neg c8] at H
    have c8b0 : decide (x17_1 < (y109.length : Int)) = false := decide_eq_false c8
    clear c8
    obtain rfl := Option.some.inj H
    go_wp2
    go_ret
    exact ⟨_, by first | rfl | (simp [errW_none, errW_some] <;> rfl) | (simp [*, errW_none, errW_some] <;> rfl), by (with_reducible repeat (first | apply Kd.R_alloc | apply Kd.R_drewN | apply Kd.R_drew)); exact HO_5.out, by repeat (first | (with_reducible first | exact HB.out | apply ba_ | apply bn_ | apply bd_ | refine below_set ?_ GE108.out) | exact HB.out)⟩
end H
open H
abbrev CL := S47
def mk (a b h : Int) : CL := ⟨⟨a, b⟩, h⟩
def sh (a b : Int) (x : CL) : CL := ⟨⟨a + x.f0.f0, b + x.f0.f1⟩, x.f1⟩
def goodP (a b : Int) : Prop := -1099511627776 ≤ a ∧ a ≤ 1099511627776 ∧ -1099511627776 ≤ b ∧ b ≤ 1099511627776
instance (a b : Int) : Decidable (goodP a b) := by unfold goodP; infer_instance
theorem good_any (a b : Int) (w : World) : Calls Tryd.prog 68 #[.agg #[.int .i64 a, .int .i64 b]] w fun e w' => e = .returned (.bool (decide (goodP a b))) ∧ Below w.heap.size w w' := by
  by_cases h : goodP a b
  · rw [decide_eq_true h]
    obtain ⟨h1, h2, h3, h4⟩ := h
    go_enter Tryd.func68, Tryd.ntmps68
    go_wp2
    go_ret
    exact ⟨rfl, (by with_reducible repeat (first | apply below_alloc | apply pw_below_drewN | apply below_drew | refine bset ?_ _ _ (by omega) _ | exact Below.refl _ _))⟩
  · rw [decide_eq_false h]
    simp only [goodP] at h
    go_enter Tryd.func68, Tryd.ntmps68
    go_wp2
    all_goals (first | (exfalso; omega) | (go_ret; exact ⟨by simp; try omega, (by with_reducible repeat (first | apply below_alloc | apply pw_below_drewN | apply below_drew | refine bset ?_ _ _ (by omega) _ | exact Below.refl _ _))⟩))
def checkR (l a b h : Int) : Option Int := if 1 ≤ l ∧ l ≤ 3 then (if h < 0 ∨ (if l = 1 then 1 else 2) ≤ h then some 4 else if goodP a b then none else some 6) else some 11
def halvesR (l : Int) : Int := if l = 1 then 1 else 2
theorem halves_any (l : Int) (w : World) : Calls Tryd.prog 49 #[.int .i64 l] w fun e w' => e = .returned (.int .i64 (halvesR l)) ∧ w' = w := by
  by_cases h : l = 1
  all_goals
    simp only [halvesR, h, ↓reduceIte]
    go_enter Tryd.func49, Tryd.ntmps49
    go_wp2
    go_ret
    exact ⟨rfl, rfl⟩
theorem lgood_any (l : Int) (w : World) : Calls Tryd.prog 61 #[.int .i64 l] w fun e w' => e = .returned (.bool (decide (1 ≤ l ∧ l ≤ 3))) ∧ w' = w := by
  by_cases h : 1 ≤ l ∧ l ≤ 3
  · rw [decide_eq_true h]
    obtain ⟨h1, h2⟩ := h
    go_enter Tryd.func61, Tryd.ntmps61
    go_wp2
    go_ret
    exact ⟨rfl, rfl⟩
  · rw [decide_eq_false h]
    go_enter Tryd.func61, Tryd.ntmps61
    go_wp2
    all_goals (first | (exfalso; omega) | (go_ret; exact ⟨by simp; try omega, rfl⟩))
theorem check_any (l a b h : Int) (w : World) : Calls Tryd.prog 63 #[.int .i64 l, .agg #[.int .i64 a, .int .i64 b, .int .i64 h]] w fun e w' => e = .returned (errW (checkR l a b h)) ∧ Below w.heap.size w w' := by
  have hl := lgood_any l
  have hh := halves_any l
  have hg := good_any a b
  unfold checkR
  by_cases h1 : 1 ≤ l ∧ l ≤ 3
  · rw [if_pos h1]
    rw [decide_eq_true h1] at hl
    have h2' : 1 ≤ halvesR l ∧ halvesR l ≤ 2 := by unfold halvesR; split <;> omega
    by_cases h2 : h < 0 ∨ (if l = 1 then 1 else 2) ≤ h
    · rw [if_pos h2]
      change h < 0 ∨ halvesR l ≤ h at h2
      by_cases h3 : h < 0
      · have hd : decide (h < 0) = true := decide_eq_true h3
        go_enter Tryd.func63, Tryd.ntmps63
        go_wp2_with (go_at_call 61; refine (hl _).mono ?_; rintro e w' ⟨rfl, rfl⟩)
        go_quiet (first | (go_at_call 49; exact Calls.quiet_of_same (hh _)))
        go_wp2
        go_ret
        exact ⟨rfl, (by with_reducible repeat (first | apply below_alloc | apply pw_below_drewN | apply below_drew | refine bset ?_ _ _ (by omega) _ | exact Below.refl _ _))⟩
      · have hd : decide (h < 0) = false := decide_eq_false h3
        have h4 : halvesR l ≤ h := by omega
        generalize halvesR l = hv at hh h4 h2'
        go_enter Tryd.func63, Tryd.ntmps63
        go_wp2_with (go_at_call 61; refine (hl _).mono ?_; rintro e w' ⟨rfl, rfl⟩)
        go_quiet (first | (go_at_call 49; exact Calls.quiet_of_same (hh _)))
        go_wp2
        go_ret
        exact ⟨rfl, (by with_reducible repeat (first | apply below_alloc | apply pw_below_drewN | apply below_drew | refine bset ?_ _ _ (by omega) _ | exact Below.refl _ _))⟩
    · rw [if_neg h2]
      change ¬ (h < 0 ∨ halvesR l ≤ h) at h2
      have hd : decide (h < 0) = false := decide_eq_false (by omega)
      have h4 : h < halvesR l := by omega
      have h5 : 0 ≤ h := by omega
      generalize halvesR l = hv at hh h4 h2'
      by_cases h6 : goodP a b
      · rw [if_pos h6]
        rw [decide_eq_true h6] at hg
        go_enter Tryd.func63, Tryd.ntmps63
        go_wp2_with (go_at_call 61; refine (hl _).mono ?_; rintro e w' ⟨rfl, rfl⟩)
        go_quiet (first | (go_at_call 49; exact Calls.quiet_of_same (hh _)))
        go_wp2_with (go_at_call 68; refine (hg _).mono ?_; rintro e w' ⟨rfl, hb⟩)
        go_ret
        exact ⟨rfl, Below.trans (by with_reducible repeat (first | apply below_alloc | apply pw_below_drewN | apply below_drew | refine bset ?_ _ _ (by omega) _ | exact Below.refl _ _)) (hb.mono (by simp))⟩
      · rw [if_neg h6]
        rw [decide_eq_false h6] at hg
        go_enter Tryd.func63, Tryd.ntmps63
        go_wp2_with (go_at_call 61; refine (hl _).mono ?_; rintro e w' ⟨rfl, rfl⟩)
        go_quiet (first | (go_at_call 49; exact Calls.quiet_of_same (hh _)))
        go_wp2_with (go_at_call 68; refine (hg _).mono ?_; rintro e w' ⟨rfl, hb⟩)
        go_ret
        exact ⟨rfl, Below.trans (by with_reducible repeat (first | apply below_alloc | apply pw_below_drewN | apply below_drew | refine bset ?_ _ _ (by omega) _ | exact Below.refl _ _)) (hb.mono (by simp))⟩
  · rw [if_neg h1]
    rw [decide_eq_false h1] at hl
    go_enter Tryd.func63, Tryd.ntmps63
    go_wp2_with (go_at_call 61; refine (hl _).mono ?_; rintro e w' ⟨rfl, rfl⟩)
    go_ret
    exact ⟨rfl, (by with_reducible repeat (first | apply below_alloc | apply pw_below_drewN | apply below_drew | refine bset ?_ _ _ (by omega) _ | exact Below.refl _ _))⟩
theorem checkR_ok {l a b h : Int} (hc : checkR l a b h = none) : 1 ≤ l ∧ l ≤ 3 ∧ goodP a b ∧ (h = 0 ∨ h = 1) ∧ (l = 1 → h = 0) := by
  unfold checkR at hc
  by_cases h0 : 1 ≤ l ∧ l ≤ 3
  · rw [if_pos h0] at hc
    by_cases h1 : h < 0 ∨ (if l = 1 then 1 else 2) ≤ h
    · rw [if_pos h1] at hc
      cases hc
    · rw [if_neg h1] at hc
      by_cases h2 : goodP a b
      · by_cases hl : l = 1
        · rw [if_pos hl] at h1
          exact ⟨h0.1, h0.2, h2, by omega, fun _ => by omega⟩
        · rw [if_neg hl] at h1
          exact ⟨h0.1, h0.2, h2, by omega, fun e => absurd e hl⟩
      · rw [if_neg h2] at hc
        cases hc
  · rw [if_neg h0] at hc
    cases hc
/-- a block as a value -/
abbrev blkV (g : Nat → Int) : Value := .agg #[.int .u16 (g 0), .int .u16 (g 1), .int .u16 (g 2), .int .u16 (g 3), .int .u16 (g 4), .int .u16 (g 5), .int .u16 (g 6), .int .u16 (g 7)]
/-- the state of a point of it -/
def stB (g : Nat → Int) (a b : Int) : Int := if a < 0 ∨ 8 ≤ a ∨ b < 0 ∨ 8 ≤ b then 0 else g b.toNat / 2 ^ (2 * a).toNat % 4
theorem bst_out (g : Nat → Int) (a b : Int) (w : World) (ho : a < 0 ∨ 8 ≤ a ∨ b < 0 ∨ 8 ≤ b) :
    Calls Tryd.prog 23 #[blkV g, .int .i64 a, .int .i64 b] w fun e w' => e = .returned (.int .i64 0) ∧ Below w.heap.size w w' := by
  go_enter Tryd.func23, Tryd.ntmps23
  by_cases h1 : a < 0
  · go_wp2
    go_ret
    exact ⟨rfl, (by with_reducible repeat (first | apply below_alloc | apply pw_below_drewN | apply below_drew | refine bset ?_ _ _ (by omega) _ | exact Below.refl _ _))⟩
  · by_cases h2 : 8 ≤ a
    · go_wp2
      go_ret
      exact ⟨rfl, (by with_reducible repeat (first | apply below_alloc | apply pw_below_drewN | apply below_drew | refine bset ?_ _ _ (by omega) _ | exact Below.refl _ _))⟩
    · by_cases h3 : b < 0
      · go_wp2
        go_ret
        exact ⟨rfl, (by with_reducible repeat (first | apply below_alloc | apply pw_below_drewN | apply below_drew | refine bset ?_ _ _ (by omega) _ | exact Below.refl _ _))⟩
      · have h4 : 8 ≤ b := by omega
        go_wp2
        go_ret
        exact ⟨rfl, (by with_reducible repeat (first | apply below_alloc | apply pw_below_drewN | apply below_drew | refine bset ?_ _ _ (by omega) _ | exact Below.refl _ _))⟩
theorem bst_in (g : Nat → Int) (a b : Int) (w : World) (h1 : 0 ≤ a) (h2 : a < 8) (h3 : 0 ≤ b) (h4 : b < 8) (hg : ∀ k, k < 8 → 0 ≤ g k ∧ g k < 65536) :
    Calls Tryd.prog 23 #[blkV g, .int .i64 a, .int .i64 b] w fun e w' => e = .returned (.int .i64 (Go.bits .and .i64 (g b.toNat / 2 ^ (2 * a).toNat) 3)) ∧ Below w.heap.size w w' := by
  have h1' : ¬ a < 0 := by omega
  have h2' : ¬ 8 ≤ a := by omega
  have hw : IntKind.i64.wrap (2 * a) = 2 * a := by rw [IntKind.wrap_i64]; omega
  have h5 : 0 ≤ 2 * a := by omega
  have h6 : 2 * a ≤ 16 := by omega
  have hq : ∀ k, k < 8 → IntKind.i64.wrap (g k / 2 ^ (2 * a).toNat) = g k / 2 ^ (2 * a).toNat := fun k hk => by
    obtain ⟨e1, e2⟩ := hg k hk
    have hp : (0 : Int) < 2 ^ (2 * a).toNat := Int.pow_pos (by decide)
    have e3 : 0 ≤ g k / 2 ^ (2 * a).toNat := Int.ediv_nonneg e1 (Int.le_of_lt hp)
    have e4 : g k / 2 ^ (2 * a).toNat ≤ g k := Int.ediv_le_self _ e1
    rw [IntKind.wrap_i64]
    omega
  have q0 := hq 0 (by omega)
  have q1 := hq 1 (by omega)
  have q2 := hq 2 (by omega)
  have q3 := hq 3 (by omega)
  have q4 := hq 4 (by omega)
  have q5 := hq 5 (by omega)
  have q6 := hq 6 (by omega)
  have q7 := hq 7 (by omega)
  clear hg hq
  have hb : b = 0 ∨ b = 1 ∨ b = 2 ∨ b = 3 ∨ b = 4 ∨ b = 5 ∨ b = 6 ∨ b = 7 := by omega
  rcases hb with rfl | rfl | rfl | rfl | rfl | rfl | rfl | rfl
  all_goals
    clear h3 h4
    go_enter Tryd.func23, Tryd.ntmps23
    go_wp2
    go_ret
    exact ⟨rfl, (by with_reducible repeat (first | apply below_alloc | apply pw_below_drewN | apply below_drew | refine bset ?_ _ _ (by omega) _ | exact Below.refl _ _))⟩
theorem bst_any (g : Nat → Int) (a b : Int) (w : World) (hg : ∀ k, k < 8 → 0 ≤ g k ∧ g k < 65536) :
    Calls Tryd.prog 23 #[blkV g, .int .i64 a, .int .i64 b] w fun e w' => e = .returned (.int .i64 (stB g a b)) ∧ Below w.heap.size w w' := by
  unfold stB
  split
  · next h => exact bst_out g a b w h
  · next h =>
    rw [← and_3]
    exact bst_in g a b w (by omega) (by omega) (by omega) (by omega) hg
/-- a row of a block: eight bits of two leaves -/
def ofRow (q q' : Int) (s : Nat) : Int := q / 2 ^ s % 256 + 256 * (q' / 2 ^ s % 256)
def ofG (q0 q1 q2 q3 : Int) (k : Nat) : Int := ofRow (if k < 4 then q0 else q2) (if k < 4 then q1 else q3) (8 * (k % 4))
/-- the rows that are there already -/
def upG (f : Nat → Int) (j k : Nat) : Int := if k < j then f k else 0
abbrev blkO (g : Nat → Int) (t : Nat) : Obj := .cells #[.int .u16 (g 0), .int .u16 (g 1), .int .u16 (g 2), .int .u16 (g 3), .int .u16 (g 4), .int .u16 (g 5), .int .u16 (g 6), .int .u16 (g 7)] t (0, 0)
abbrev set8 (W : World) (g : Nat) (v : Nat → Int) : World := (((((((W.setCell ⟨g, 0, none⟩ (.int .u16 (v 0))).setCell ⟨g, 1, none⟩ (.int .u16 (v 1))).setCell ⟨g, 2, none⟩ (.int .u16 (v 2))).setCell ⟨g, 3, none⟩ (.int .u16 (v 3))).setCell ⟨g, 4, none⟩ (.int .u16 (v 4))).setCell ⟨g, 5, none⟩ (.int .u16 (v 5))).setCell ⟨g, 6, none⟩ (.int .u16 (v 6))).setCell ⟨g, 7, none⟩ (.int .u16 (v 7))
theorem set8_blk {W : World} {g t : Nat} {z : Nat → Int} (v : Nat → Int) (h : W.heap[g]? = some (blkO z t)) : (set8 W g v).heap[g]? = some (blkO v t) := by
  have h0 := blk_put h 0 (.int .u16 (v 0)) (show _ = #[.int .u16 (v 0), .int .u16 (z 1), .int .u16 (z 2), .int .u16 (z 3), .int .u16 (z 4), .int .u16 (z 5), .int .u16 (z 6), .int .u16 (z 7)] from rfl)
  have h1 := blk_put h0 1 (.int .u16 (v 1)) (show _ = #[.int .u16 (v 0), .int .u16 (v 1), .int .u16 (z 2), .int .u16 (z 3), .int .u16 (z 4), .int .u16 (z 5), .int .u16 (z 6), .int .u16 (z 7)] from rfl)
  have h2 := blk_put h1 2 (.int .u16 (v 2)) (show _ = #[.int .u16 (v 0), .int .u16 (v 1), .int .u16 (v 2), .int .u16 (z 3), .int .u16 (z 4), .int .u16 (z 5), .int .u16 (z 6), .int .u16 (z 7)] from rfl)
  have h3 := blk_put h2 3 (.int .u16 (v 3)) (show _ = #[.int .u16 (v 0), .int .u16 (v 1), .int .u16 (v 2), .int .u16 (v 3), .int .u16 (z 4), .int .u16 (z 5), .int .u16 (z 6), .int .u16 (z 7)] from rfl)
  have h4 := blk_put h3 4 (.int .u16 (v 4)) (show _ = #[.int .u16 (v 0), .int .u16 (v 1), .int .u16 (v 2), .int .u16 (v 3), .int .u16 (v 4), .int .u16 (z 5), .int .u16 (z 6), .int .u16 (z 7)] from rfl)
  have h5 := blk_put h4 5 (.int .u16 (v 5)) (show _ = #[.int .u16 (v 0), .int .u16 (v 1), .int .u16 (v 2), .int .u16 (v 3), .int .u16 (v 4), .int .u16 (v 5), .int .u16 (z 6), .int .u16 (z 7)] from rfl)
  have h6 := blk_put h5 6 (.int .u16 (v 6)) (show _ = #[.int .u16 (v 0), .int .u16 (v 1), .int .u16 (v 2), .int .u16 (v 3), .int .u16 (v 4), .int .u16 (v 5), .int .u16 (v 6), .int .u16 (z 7)] from rfl)
  have h7 := blk_put h6 7 (.int .u16 (v 7)) (show _ = #[.int .u16 (v 0), .int .u16 (v 1), .int .u16 (v 2), .int .u16 (v 3), .int .u16 (v 4), .int .u16 (v 5), .int .u16 (v 6), .int .u16 (v 7)] from rfl)
  exact h7
theorem set8_below {W w : World} {n g : Nat} (v : Nat → Int) (h : Below n w W) (hg : n ≤ g) : Below n w (set8 W g v) :=
  Below.setCell (p := ⟨g, 7, none⟩) (Below.setCell (p := ⟨g, 6, none⟩) (Below.setCell (p := ⟨g, 5, none⟩) (Below.setCell (p := ⟨g, 4, none⟩) (Below.setCell (p := ⟨g, 3, none⟩) (Below.setCell (p := ⟨g, 2, none⟩) (Below.setCell (p := ⟨g, 1, none⟩) (Below.setCell (p := ⟨g, 0, none⟩) h hg _) hg _) hg _) hg _) hg _) hg _) hg _) hg _
theorem and255 (x : Int) (h0 : 0 ≤ x) (h1 : x < 4294967296) : Go.bits .and .u32 x 255 = x % 256 := by
  rw [Go.u32_and x 255 h0 h1 (by omega) (by omega), show (255 : Int).toNat = 255 from rfl, Go.nat_mask8]
  omega
theorem or_row (x y : Int) (hx : 0 ≤ x ∧ x < 256) (hy : 0 ≤ y ∧ y < 256) : Go.bits .or .u16 x (y * 256) = x + 256 * y := by
  rw [Go.u16_or x (y * 256) (by omega) (by omega) (by omega) (by omega), Nat.or_comm, Go.nat_join 8 _ _ (by omega) (by omega)]
  omega
theorem row_v (a b : Int) (ha : 0 ≤ a ∧ a < 4294967296) (hb : 0 ≤ b ∧ b < 4294967296) : Go.bits .or .u16 (IntKind.u16.wrap (Go.bits .and .u32 a 255)) (IntKind.u16.wrap (IntKind.u16.wrap (Go.bits .and .u32 b 255) * 256)) = a % 256 + 256 * (b % 256) := by
  rw [and255 a ha.1 ha.2, and255 b hb.1 hb.2, Go.IntKind.wrap_u16, Go.IntKind.wrap_u16, Go.IntKind.wrap_u16, show a % 256 % 65536 = a % 256 by omega, show b % 256 % 65536 * 256 % 65536 = b % 256 * 256 by omega]
  exact or_row _ _ (by omega) (by omega)
theorem bof_any (q0 q1 q2 q3 : Int) (w : World) (h0 : 0 ≤ q0 ∧ q0 < 4294967296) (h1 : 0 ≤ q1 ∧ q1 < 4294967296) (h2 : 0 ≤ q2 ∧ q2 < 4294967296) (h3 : 0 ≤ q3 ∧ q3 < 4294967296) :
    Calls Tryd.prog 17 #[.agg #[.int .u32 q0, .int .u32 q1, .int .u32 q2, .int .u32 q3]] w fun e w' => e = .returned (blkV (ofG q0 q1 q2 q3)) ∧ Below w.heap.size w w' := by
  go_enter Tryd.func17, Tryd.ntmps17
  go_upto_region 2 with (fail)
  obtain ⟨w3, hw3⟩ : ∃ W, W = ((w.alloc (.cells #[.int .u32 q0, .int .u32 q1, .int .u32 q2, .int .u32 q3] 56 (0, 0))).alloc (.cells #[.int .u16 0, .int .u16 0, .int .u16 0, .int .u16 0, .int .u16 0, .int .u16 0, .int .u16 0, .int .u16 0] 52 (0, 0))).alloc (.cells #[.int .u16 0, .int .u16 0, .int .u16 0, .int .u16 0, .int .u16 0, .int .u16 0, .int .u16 0, .int .u16 0] 52 (0, 0)) := ⟨_, rfl⟩
  have bq : w3.heap[w.heap.size]? = some (.cells #[.int .u32 q0, .int .u32 q1, .int .u32 q2, .int .u32 q3] 56 (0, 0)) := by rw [hw3]; exact blk_alloc (blk_alloc (blk_new _ _) _) _
  have bo : w3.heap[w.heap.size + 1]? = some (blkO (fun _ => 0) 52) := by
    have := blk_new (w.alloc (.cells #[.int .u32 q0, .int .u32 q1, .int .u32 q2, .int .u32 q3] 56 (0, 0))) (blkO (fun _ => 0) 52)
    rw [World.size_alloc] at this
    rw [hw3]
    exact blk_alloc this _
  have bx : w3.heap[w.heap.size + 1 + 1]? = some (blkO (fun _ => 0) 52) := by
    have := blk_new ((w.alloc (.cells #[.int .u32 q0, .int .u32 q1, .int .u32 q2, .int .u32 q3] 56 (0, 0))).alloc (blkO (fun _ => 0) 52)) (blkO (fun _ => 0) 52)
    rw [World.size_alloc, World.size_alloc] at this
    rw [hw3]
    exact this
  have hB : Below w.heap.size w w3 := by rw [hw3]; exact (by with_reducible repeat (first | apply below_alloc | apply pw_below_drewN | apply below_drew | refine bset ?_ _ _ (by omega) _ | exact Below.refl _ _))
  rw [← hw3]
  clear hw3
  obtain ⟨g1, hg1⟩ : ∃ g, g = w.heap.size := ⟨_, rfl⟩
  obtain ⟨g2, hg2⟩ : ∃ g, g = w.heap.size + 1 := ⟨_, rfl⟩
  obtain ⟨g3, hg3⟩ : ∃ g, g = w.heap.size + 1 + 1 := ⟨_, rfl⟩
  rw [← hg1] at bq
  rw [← hg3] at bx ⊢
  rw [← hg2] at bo ⊢
  rw [← hg1]
  have n13 : g1 ≠ g3 := by omega
  have n23 : g2 ≠ g3 := by omega
  have l2 : w.heap.size ≤ g2 := by omega
  have l3 : w.heap.size ≤ g3 := by omega
  clear hg1 hg2 hg3
  go_wp2_with fail
  go_loopw [7] (fun iv wr => ∃ j : Nat, j ≤ 8 ∧ iv = .int .i64 j ∧ wr.heap[g1]? = some (.cells #[.int .u32 q0, .int .u32 q1, .int .u32 q2, .int .u32 q3] 56 (0, 0)) ∧ wr.heap[g2]? = some (blkO (fun _ => 0) 52) ∧ wr.heap[g3]? = some (blkO (upG (ofG q0 q1 q2 q3) j) 52) ∧ Below w.heap.size w wr) (fun iv _ => 8 - (intOf iv).toNat)
  case atStart => exact ⟨0, by omega, rfl, bq, bo, bx, hB⟩
  case round =>
    obtain ⟨j, hj, rfl, rq, ro, rx, hB⟩ := hrel
    have RQ := Aside0.mk rq
    have RO := Aside0.mk ro
    have RX := Aside0.mk rx
    have HB := Aside0.mk hB
    clear bq bo bx ro hB
    by_cases hlt : j < 8
    · have c0 := blk_cell rq 0
      have c1 := blk_cell rq 1
      have c2 := blk_cell rq 2
      have c3 := blk_cell rq 3
      have xf := blk_frozen rx
      simp only [List.getElem?_toArray, List.getElem?_cons_zero, List.getElem?_cons_succ] at c0 c1 c2 c3
      clear rq rx
      have hjj : j = 0 ∨ j = 1 ∨ j = 2 ∨ j = 3 ∨ j = 4 ∨ j = 5 ∨ j = 6 ∨ j = 7 := by omega
      rcases hjj with rfl | rfl | rfl | rfl | rfl | rfl | rfl | rfl
      · have xj := blk_cell RX.out 0
        simp only [List.getElem?_toArray, List.getElem?_cons_zero, List.getElem?_cons_succ] at xj
        have hv : Go.bits .or .u16 (IntKind.u16.wrap (Go.bits .and .u32 q0 255)) (IntKind.u16.wrap (IntKind.u16.wrap (Go.bits .and .u32 q1 255) * 256)) = ofG q0 q1 q2 q3 0 := (row_v q0 q1 (by omega) (by omega)).trans (by unfold ofG ofRow; simp)
        go_upto_region 7 with (fail)
        go_region
        all_goals
          clear hv c0 c1 c2 c3 xj xf
          go_wp2
          go_roundw
          case rel => exact ⟨1, by omega, by go_num, blk_far (blk_drew RQ.out) (p := ⟨g3, 0, none⟩) n13 _, blk_far (blk_drew RO.out) (p := ⟨g3, 0, none⟩) n23 _, blk_put (blk_drew RX.out) 0 _ rfl, Below.setCell (p := ⟨g3, 0, none⟩) (below_drew HB.out) l3 _⟩
          case measure => simp [intOf]
      · have xj := blk_cell RX.out 1
        simp only [List.getElem?_toArray, List.getElem?_cons_zero, List.getElem?_cons_succ] at xj
        have hv : Go.bits .or .u16 (IntKind.u16.wrap (Go.bits .and .u32 (q0 / 256) 255)) (IntKind.u16.wrap (IntKind.u16.wrap (Go.bits .and .u32 (q1 / 256) 255) * 256)) = ofG q0 q1 q2 q3 1 := (row_v (q0 / 256) (q1 / 256) (by omega) (by omega)).trans (by unfold ofG ofRow; simp)
        go_upto_region 7 with (fail)
        go_region
        all_goals
          clear hv c0 c1 c2 c3 xj xf
          go_wp2
          go_roundw
          case rel => exact ⟨2, by omega, by go_num, blk_far (blk_drew RQ.out) (p := ⟨g3, 1, none⟩) n13 _, blk_far (blk_drew RO.out) (p := ⟨g3, 1, none⟩) n23 _, blk_put (blk_drew RX.out) 1 _ rfl, Below.setCell (p := ⟨g3, 1, none⟩) (below_drew HB.out) l3 _⟩
          case measure => simp [intOf]
      · have xj := blk_cell RX.out 2
        simp only [List.getElem?_toArray, List.getElem?_cons_zero, List.getElem?_cons_succ] at xj
        have hv : Go.bits .or .u16 (IntKind.u16.wrap (Go.bits .and .u32 (q0 / 65536) 255)) (IntKind.u16.wrap (IntKind.u16.wrap (Go.bits .and .u32 (q1 / 65536) 255) * 256)) = ofG q0 q1 q2 q3 2 := (row_v (q0 / 65536) (q1 / 65536) (by omega) (by omega)).trans (by unfold ofG ofRow; simp)
        go_upto_region 7 with (fail)
        go_region
        all_goals
          clear hv c0 c1 c2 c3 xj xf
          go_wp2
          go_roundw
          case rel => exact ⟨3, by omega, by go_num, blk_far (blk_drew RQ.out) (p := ⟨g3, 2, none⟩) n13 _, blk_far (blk_drew RO.out) (p := ⟨g3, 2, none⟩) n23 _, blk_put (blk_drew RX.out) 2 _ rfl, Below.setCell (p := ⟨g3, 2, none⟩) (below_drew HB.out) l3 _⟩
          case measure => simp [intOf]
      · have xj := blk_cell RX.out 3
        simp only [List.getElem?_toArray, List.getElem?_cons_zero, List.getElem?_cons_succ] at xj
        have hv : Go.bits .or .u16 (IntKind.u16.wrap (Go.bits .and .u32 (q0 / 16777216) 255)) (IntKind.u16.wrap (IntKind.u16.wrap (Go.bits .and .u32 (q1 / 16777216) 255) * 256)) = ofG q0 q1 q2 q3 3 := (row_v (q0 / 16777216) (q1 / 16777216) (by omega) (by omega)).trans (by unfold ofG ofRow; simp)
        go_upto_region 7 with (fail)
        go_region
        all_goals
          clear hv c0 c1 c2 c3 xj xf
          go_wp2
          go_roundw
          case rel => exact ⟨4, by omega, by go_num, blk_far (blk_drew RQ.out) (p := ⟨g3, 3, none⟩) n13 _, blk_far (blk_drew RO.out) (p := ⟨g3, 3, none⟩) n23 _, blk_put (blk_drew RX.out) 3 _ rfl, Below.setCell (p := ⟨g3, 3, none⟩) (below_drew HB.out) l3 _⟩
          case measure => simp [intOf]
      · have xj := blk_cell RX.out 4
        simp only [List.getElem?_toArray, List.getElem?_cons_zero, List.getElem?_cons_succ] at xj
        have hv : Go.bits .or .u16 (IntKind.u16.wrap (Go.bits .and .u32 q2 255)) (IntKind.u16.wrap (IntKind.u16.wrap (Go.bits .and .u32 q3 255) * 256)) = ofG q0 q1 q2 q3 4 := (row_v q2 q3 (by omega) (by omega)).trans (by unfold ofG ofRow; simp)
        go_upto_region 7 with (fail)
        go_region
        all_goals
          clear hv c0 c1 c2 c3 xj xf
          go_wp2
          go_roundw
          case rel => exact ⟨5, by omega, by go_num, blk_far (blk_drew RQ.out) (p := ⟨g3, 4, none⟩) n13 _, blk_far (blk_drew RO.out) (p := ⟨g3, 4, none⟩) n23 _, blk_put (blk_drew RX.out) 4 _ rfl, Below.setCell (p := ⟨g3, 4, none⟩) (below_drew HB.out) l3 _⟩
          case measure => simp [intOf]
      · have xj := blk_cell RX.out 5
        simp only [List.getElem?_toArray, List.getElem?_cons_zero, List.getElem?_cons_succ] at xj
        have hv : Go.bits .or .u16 (IntKind.u16.wrap (Go.bits .and .u32 (q2 / 256) 255)) (IntKind.u16.wrap (IntKind.u16.wrap (Go.bits .and .u32 (q3 / 256) 255) * 256)) = ofG q0 q1 q2 q3 5 := (row_v (q2 / 256) (q3 / 256) (by omega) (by omega)).trans (by unfold ofG ofRow; simp)
        go_upto_region 7 with (fail)
        go_region
        all_goals
          clear hv c0 c1 c2 c3 xj xf
          go_wp2
          go_roundw
          case rel => exact ⟨6, by omega, by go_num, blk_far (blk_drew RQ.out) (p := ⟨g3, 5, none⟩) n13 _, blk_far (blk_drew RO.out) (p := ⟨g3, 5, none⟩) n23 _, blk_put (blk_drew RX.out) 5 _ rfl, Below.setCell (p := ⟨g3, 5, none⟩) (below_drew HB.out) l3 _⟩
          case measure => simp [intOf]
      · have xj := blk_cell RX.out 6
        simp only [List.getElem?_toArray, List.getElem?_cons_zero, List.getElem?_cons_succ] at xj
        have hv : Go.bits .or .u16 (IntKind.u16.wrap (Go.bits .and .u32 (q2 / 65536) 255)) (IntKind.u16.wrap (IntKind.u16.wrap (Go.bits .and .u32 (q3 / 65536) 255) * 256)) = ofG q0 q1 q2 q3 6 := (row_v (q2 / 65536) (q3 / 65536) (by omega) (by omega)).trans (by unfold ofG ofRow; simp)
        go_upto_region 7 with (fail)
        go_region
        all_goals
          clear hv c0 c1 c2 c3 xj xf
          go_wp2
          go_roundw
          case rel => exact ⟨7, by omega, by go_num, blk_far (blk_drew RQ.out) (p := ⟨g3, 6, none⟩) n13 _, blk_far (blk_drew RO.out) (p := ⟨g3, 6, none⟩) n23 _, blk_put (blk_drew RX.out) 6 _ rfl, Below.setCell (p := ⟨g3, 6, none⟩) (below_drew HB.out) l3 _⟩
          case measure => simp [intOf]
      · have xj := blk_cell RX.out 7
        simp only [List.getElem?_toArray, List.getElem?_cons_zero, List.getElem?_cons_succ] at xj
        have hv : Go.bits .or .u16 (IntKind.u16.wrap (Go.bits .and .u32 (q2 / 16777216) 255)) (IntKind.u16.wrap (IntKind.u16.wrap (Go.bits .and .u32 (q3 / 16777216) 255) * 256)) = ofG q0 q1 q2 q3 7 := (row_v (q2 / 16777216) (q3 / 16777216) (by omega) (by omega)).trans (by unfold ofG ofRow; simp)
        go_upto_region 7 with (fail)
        go_region
        all_goals
          clear hv c0 c1 c2 c3 xj xf
          go_wp2
          go_roundw
          case rel => exact ⟨8, by omega, by go_num, blk_far (blk_drew RQ.out) (p := ⟨g3, 7, none⟩) n13 _, blk_far (blk_drew RO.out) (p := ⟨g3, 7, none⟩) n23 _, blk_put (blk_drew RX.out) 7 _ rfl, Below.setCell (p := ⟨g3, 7, none⟩) (below_drew HB.out) l3 _⟩
          case measure => simp [intOf]
    · obtain rfl : j = 8 := by omega
      clear rq rx RQ
      have XO := And.intro (blk_cell RX.out 0) (And.intro (blk_cell RX.out 1) (And.intro (blk_cell RX.out 2) (And.intro (blk_cell RX.out 3) (And.intro (blk_cell RX.out 4) (And.intro (blk_cell RX.out 5) (And.intro (blk_cell RX.out 6) (blk_cell RX.out 7)))))))
      have YO := And.intro (blk_cell RO.out 0) (And.intro (blk_cell RO.out 1) (And.intro (blk_cell RO.out 2) (And.intro (blk_cell RO.out 3) (And.intro (blk_cell RO.out 4) (And.intro (blk_cell RO.out 5) (And.intro (blk_cell RO.out 6) (blk_cell RO.out 7)))))))
      have yf := blk_frozen RO.out
      simp only [List.getElem?_toArray, List.getElem?_cons_zero, List.getElem?_cons_succ] at XO YO
      obtain ⟨x0, x1, x2, x3, x4, x5, x6, x7⟩ := XO
      obtain ⟨y0, y1, y2, y3, y4, y5, y6, y7⟩ := YO
      go_wp2
      exact bodyPost_ret (results_cell_row rfl _ _ g2 52 _ (0, 0) _ rfl (set8_blk (upG (ofG q0 q1 q2 q3) 8) RO.out) Tryd.underlying52 rfl (by kernel_rfl)) rfl ⟨rfl, set8_below (upG (ofG q0 q1 q2 q3) 8) HB.out l2⟩
end Go.Proofs.YtieekbdododkkaaDoor
