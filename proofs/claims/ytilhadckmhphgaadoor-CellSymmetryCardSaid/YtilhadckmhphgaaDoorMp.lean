/- Maps that the call itself has made, as lists of keys and values: look-ups, 'm[k]++' (entry, then store), 'm[k] = v', len, delete. No program is named here but its table of types. -/
import Derived.Test.YtilhadckmhphgaaDoorL0
import Derived.Maps.OwnSet
namespace Go.Proofs.YtilhadckmhphgaaDoor
open Go.ChangeMaps Go.MapKept Go.WideShapes
open Go.Maps (Keyed)

/-- block b of w is a map of these keys and values, in the order in which they came -/
def MapAt (P : Program) (k : TypeId) (w : World) (b : Nat) (l : List (Value × Value)) : Prop :=
  ∃ es clock, w.heap[b]? = some (.map es clock) ∧ Stamped es clock ∧ (∀ x ∈ es.toList, ∃ kl, keyOf P k x.key = some kl) ∧ es.toList.map (fun e => (e.key, e.val)) = l

section
variable {P : Program} {k e t : TypeId} {w : World} {b : Nat} {l : List (Value × Value)}

theorem nodup_idx {α : Type} {l : List α} (h : l.Nodup) {i j : Nat} {x : α} (hi : l[i]? = some x) (hj : l[j]? = some x) : i = j :=
  (List.getElem?_inj (List.getElem?_eq_some_iff.1 hi).1 h).1 (hi.trans hj.symm)
theorem MapAt_made (P : Program) (k : TypeId) (w : World) : MapAt P k (w.alloc (.map #[] 0)) w.heap.size [] :=
  ⟨#[], 0, (MapKept.heap_alloc w (.map #[] 0)).1, ⟨by simp, by simp, by simp⟩, by simp, rfl⟩
theorem MapAt.of_heap {w' : World} (h : MapAt P k w b l) (hh : w'.heap[b]? = w.heap[b]?) : MapAt P k w' b l := by
  obtain ⟨es, c, hb, r⟩ := h
  exact ⟨es, c, hh.trans hb, r⟩
theorem MapAt.lt (h : MapAt P k w b l) : b < w.heap.size := by
  obtain ⟨es, c, hb, _⟩ := h
  exact (Array.getElem?_eq_some_iff.1 hb).1
theorem MapAt.below {w' : World} (h : MapAt P k w b l) (hb : RowKit.Below w.heap.size w w') : MapAt P k w' b l :=
  h.of_heap (hb.block b h.lt)

theorem MapAt.find (h : MapAt P k w b l) (K : Keyed P k) {key : Value} {kl : Lit} (hkey : keyOf P k key = some kl) :
    ∃ es clock, w.heap[b]? = some (.map es clock) ∧ Stamped es clock ∧ (∀ x ∈ es.toList, ∃ kl, keyOf P k x.key = some kl) ∧ es.toList.map (fun e => (e.key, e.val)) = l ∧
      (((∀ W, (Instr.findKey k key es.toList).run P W = .ok none W) ∧ ∀ p ∈ l, p.1 ≠ key) ∨ ∃ j e0, (∀ W, (Instr.findKey k key es.toList).run P W = .ok (some (j, e0.val)) W) ∧ es.toList[j]? = some e0 ∧ e0.key = key ∧ l[j]? = some (key, e0.val)) := by
  obtain ⟨es, clock, hb, hs, hk, hl⟩ := h
  refine ⟨es, clock, hb, hs, hk, hl, ?_⟩
  have hnd : ∀ (i j : Nat) (x y : MapEntry), es.toList[i]? = some x → es.toList[j]? = some y → x.key = y.key → i = j := by
    intro i j x y hi hj hxy
    exact nodup_idx (x := y.key) hs.2.2 (by rw [List.getElem?_map, hi]; exact congrArg some hxy) (by rw [List.getElem?_map, hj]; rfl)
  by_cases hx : ∃ x ∈ es.toList, x.key = key
  · obtain ⟨x, hx, hxk⟩ := hx
    obtain ⟨i, hi⟩ := List.mem_iff_getElem?.1 hx
    refine Or.inr ⟨i, x, fun W => ?_, hi, hxk, by rw [← hl, List.getElem?_map, hi]; simp [hxk]⟩
    rcases K.find W hkey es.toList hk with ⟨_, h2⟩ | ⟨j, e0, h1, h2, h3⟩
    · exact absurd hxk (h2 x hx)
    · have hij := hnd i j x e0 hi h2 (hxk.trans h3.symm)
      subst hij
      rw [hi] at h2
      cases h2
      exact h1
  · refine Or.inl ⟨fun W => ?_, fun p hp hpk => ?_⟩
    · rcases K.find W hkey es.toList hk with ⟨h1, _⟩ | ⟨j, e0, h1, h2, h3⟩
      · exact h1
      · exact absurd ⟨e0, List.mem_of_getElem? h2, h3⟩ hx
    · rw [← hl] at hp
      obtain ⟨x, hx1, rfl⟩ := List.mem_map.1 hp
      exact hx ⟨x, hx1, hpk⟩

theorem MapAt.look_none (c : Bool) (h : MapAt P k w b l) (K : Keyed P k) (ht : P.underlying t = some (.map k e)) {z : Value} (hz : ∀ W, (zeroValue e).run P W = .ok z W) {key : Value} {kl : Lit} (hkey : keyOf P k key = some kl) (hn : ∀ p ∈ l, p.1 ≠ key) :
    (Instr.lookup t (.map (some b)) key c).run P w = .ok (if c then .tuple #[z, .bool false] else z) w := by
  obtain ⟨es, clock, hb, hs, hk, hl, ⟨h1, h2⟩ | ⟨j, e0, h1, h2, h3, h4⟩⟩ := h.find K hkey
  · simp [Instr.lookup, run_underlying ht, MapKept.run_getObj_map hb, K.check w _ hkey, h1, hz, Result.andThen]
  · exact absurd rfl (hn _ (List.mem_of_getElem? h4))
theorem MapAt.look_some (c : Bool) (h : MapAt P k w b l) (K : Keyed P k) (ht : P.underlying t = some (.map k e)) {key v : Value} {kl : Lit} (hkey : keyOf P k key = some kl) {j : Nat} (hj : l[j]? = some (key, v)) :
    (Instr.lookup t (.map (some b)) key c).run P w = .ok (if c then .tuple #[v, .bool true] else v) w := by
  obtain ⟨es, clock, hb, hs, hk, hl, ⟨h1, h2⟩ | ⟨i, e0, h1, h2, h3, h4⟩⟩ := h.find K hkey
  · exact absurd rfl (h2 _ (List.mem_of_getElem? hj))
  · have hij : i = j := by
      have hk1 : es.toList.map (·.key) = l.map (·.1) := by rw [← hl, List.map_map]; rfl
      exact nodup_idx (x := key) (hk1 ▸ hs.2.2) (by rw [List.getElem?_map, h4]; rfl) (by rw [List.getElem?_map, hj]; rfl)
    subst hij
    rw [hj] at h4
    cases h4
    simp [Instr.lookup, run_underlying ht, MapKept.run_getObj_map hb, K.check w _ hkey, h1, Result.andThen]
theorem MapAt.len (h : MapAt P k w b l) (ht : P.underlying t = some (.map k e)) (ty : TypeId) : (Builtin.len_ #[t] ty #[.map (some b)]).run P w = .ok (.int .i64 l.length) w := by
  obtain ⟨es, clock, hb, _, _, hl⟩ := h
  have : l.length = es.size := by rw [← hl]; simp
  rw [this]
  simp [Builtin.len_, run_underlying ht, MapKept.run_getObj_map hb, goInt, Result.andThen]

/-- the entry's store, behind whatever else -/
def StoreAt (P : Program) (k t : TypeId) (b : Nat) (w1 : World) (st : Int) (f : Value → List (Value × Value)) : Prop :=
  ∀ W, W.heap[b]? = w1.heap[b]? → ∀ x, ∃ W', (Instr.entryStore t (.map (some b)) (.int .i64 st) x).run P W = .ok () W' ∧ MapAt P k W' b (f x) ∧ W.mapTurned W' b

theorem findBorn {es : Array MapEntry} {clock : Nat} (hs : Stamped es clock) {j : Nat} {e0 : MapEntry} (hj : es[j]? = some e0) : es.findIdx? (fun e => (e.born : Int) == (e0.born : Int)) = some j := by
  obtain ⟨hjl, hje⟩ := Array.getElem?_eq_some_iff.1 hj
  rw [Array.findIdx?_eq_some_iff_getElem]
  refine ⟨hjl, by simp [hje], fun i hij => ?_⟩
  have hi : i < es.size := by omega
  intro hq
  have hq2 : es[i].born = e0.born := by simp at hq; omega
  have := nodup_idx (x := e0.born) (i := i) (j := j) hs.2.1 (by rw [List.getElem?_map, Array.getElem?_toList, Array.getElem?_eq_getElem hi]; exact congrArg some hq2) (by rw [List.getElem?_map, Array.getElem?_toList, hj]; rfl)
  omega
theorem store_run {W : World} {es : Array MapEntry} {clock : Nat} (hs : Stamped es clock) (hk : ∀ x ∈ es.toList, ∃ kl, keyOf P k x.key = some kl) (hb1 : W.heap[b]? = some (.map es clock)) {j : Nat} {e0 : MapEntry} (hj : es[j]? = some e0) (x : Value) :
    ∃ W', (Instr.entryStore t (.map (some b)) (.int .i64 e0.born) x).run P W = .ok () W' ∧ MapAt P k W' b ((es.toList.map (fun e => (e.key, e.val))).set j (e0.key, x)) ∧ W.mapTurned W' b := by
  have hf := findBorn hs hj
  refine ⟨setBlock W b (.map (es.modify j fun e => { e with val := x }) clock), ?_, ⟨_, _, heap_setBlock_same hb1 _, stamped_modify hs _ _ (fun _ _ => rfl) (fun _ _ _ => rfl), ?_, ?_⟩, ⟨_, _, _, _, hb1, rfl⟩⟩
  · simp [Instr.entryStore, MapKept.run_getObj_map hb1, asInt, asIntOf, hf, MapKept.run_setObj_map _ hb1, Result.andThen, setBlock]
  · intro y hy
    have hy' : y.key ∈ (es.modify j (fun e => { e with val := x })).toList.map (·.key) := List.mem_map.2 ⟨y, hy, rfl⟩
    rw [modify_keys j (fun e => { e with val := x }) (fun _ _ => rfl)] at hy'
    obtain ⟨u, hu, hue⟩ := List.mem_map.1 hy'
    rw [← hue]
    exact hk u hu
  · apply List.ext_getElem?
    intro q
    rw [List.getElem?_map, Array.getElem?_toList, Array.getElem?_modify, List.getElem?_set]
    split
    · next hq =>
      subst hq
      obtain ⟨this, h0⟩ := Array.getElem?_eq_some_iff.1 hj
      simp [this, h0]
    · simp

theorem MapAt.entry_none (h : MapAt P k w b l) (K : Keyed P k) (ht : P.underlying t = some (.map k e)) {z : Value} (hz : ∀ W, (zeroValue e).run P W = .ok z W) {key : Value} {kl : Lit} (hkey : keyOf P k key = some kl) (hn : ∀ p ∈ l, p.1 ≠ key) :
    ∃ w1 st, (Instr.mapEntry t (.map (some b)) key).run P w = .ok (.tuple #[z, .int .i64 st]) w1 ∧ w.mapTurned w1 b ∧ StoreAt P k t b w1 st (fun x => l ++ [(key, x)]) ∧ MapAt P k w1 b (l ++ [(key, z)]) := by
  obtain ⟨es, clock, hb, hs, hk, hl, ⟨h1, h2⟩ | ⟨j, e0, h1, h2, h3, h4⟩⟩ := h.find K hkey
  · have hne : ∀ x ∈ es.toList, x.key ≠ key := fun x hx => h2 (x.key, x.val) (by rw [← hl]; exact List.mem_map.2 ⟨x, hx, rfl⟩)
    refine ⟨setBlock w b (.map (es.push ⟨key, z, clock⟩) (clock + 1)), clock, ?_, ⟨es, clock, _, _, hb, rfl⟩, ?_, ?_⟩
    · simp [Instr.mapEntry, run_underlying ht, MapKept.run_getObj_map hb, K.check w _ hkey, h1, hz, MapKept.run_setObj_map _ hb, Result.andThen, setBlock, goInt]
    · intro W hW x
      have hb1 : W.heap[b]? = some (.map (es.push ⟨key, z, clock⟩) (clock + 1)) := hW.trans (heap_setBlock_same hb _)
      have hlast : (es.push ⟨key, z, clock⟩)[es.size]? = some ⟨key, z, clock⟩ := by simp
      have := store_run (t := t) (stamped_push (val := z) hs hne) (fun y hy => by
        simp only [Array.toList_push, List.mem_append, List.mem_singleton] at hy
        rcases hy with hy | rfl
        · exact hk y hy
        · exact ⟨kl, hkey⟩) hb1 hlast x
      rw [Array.toList_push, List.map_append, hl] at this
      have hlen : l.length = es.size := by rw [← hl]; simp
      rw [← hlen, List.set_append_right _ _ (Nat.le_refl _), Nat.sub_self] at this
      exact this
    · refine ⟨_, _, heap_setBlock_same hb _, stamped_push (val := z) hs hne, fun y hy => ?_, by rw [Array.toList_push, List.map_append, hl]; rfl⟩
      simp only [Array.toList_push, List.mem_append, List.mem_singleton] at hy
      rcases hy with hy | rfl
      · exact hk y hy
      · exact ⟨kl, hkey⟩
  · exact absurd rfl (hn _ (List.mem_of_getElem? h4))

theorem MapAt.entry_some (h : MapAt P k w b l) (K : Keyed P k) (ht : P.underlying t = some (.map k e)) {key v : Value} {kl : Lit} (hkey : keyOf P k key = some kl) {j : Nat} (hj : l[j]? = some (key, v)) :
    ∃ w1 st, (Instr.mapEntry t (.map (some b)) key).run P w = .ok (.tuple #[v, .int .i64 st]) w1 ∧ w.mapTurned w1 b ∧ StoreAt P k t b w1 st (fun x => l.set j (key, x)) ∧ MapAt P k w1 b l := by
  obtain ⟨es, clock, hb, hs, hk, hl, ⟨h1, h2⟩ | ⟨i, e0, h1, h2, h3, h4⟩⟩ := h.find K hkey
  · exact absurd rfl (h2 _ (List.mem_of_getElem? hj))
  · have hij : i = j := by
      have hk1 : es.toList.map (·.key) = l.map (·.1) := by rw [← hl, List.map_map]; rfl
      exact nodup_idx (x := key) (hk1 ▸ hs.2.2) (by rw [List.getElem?_map, h4]; rfl) (by rw [List.getElem?_map, hj]; rfl)
    subst hij
    rw [hj] at h4
    cases h4
    have hi : es[i]? = some e0 := by simpa using h2
    have hsame : es.modify i (fun e => { e with key := key }) = es := by
      apply Array.ext_getElem?
      intro q
      rw [Array.getElem?_modify]
      split
      · next hq =>
        subst hq
        rw [hi]
        simp [← h3]
      · rfl
    refine ⟨setBlock w b (.map (es.modify i (fun e => { e with key := key })) clock), e0.born, ?_, ⟨es, clock, _, _, hb, rfl⟩, ?_, ?_⟩
    · simp [Instr.mapEntry, run_underlying ht, MapKept.run_getObj_map hb, K.check w _ hkey, h1, hi, h3, K.stays w hkey, MapKept.run_setObj_map _ hb, Result.andThen, setBlock, goInt]
    · intro W hW x
      rw [hsame] at hW
      have := store_run (t := t) hs hk (hW.trans (heap_setBlock_same hb _)) hi x
      rw [hl, h3] at this
      exact this
    · rw [hsame]
      exact ⟨_, _, heap_setBlock_same hb _, hs, hk, hl⟩

/-- 'm[key]++' at a map of whole numbers: what the look-up gives (ahead of the entry, and behind it), what the entry gives, what the store leaves -/
theorem MapAt.bump (h : MapAt P k w b l) (K : Keyed P k) (ht : P.underlying t = some (.map k e)) {z : Value} (hz : ∀ W, (zeroValue e).run P W = .ok z W) {key : Value} {kl : Lit} (hkey : keyOf P k key = some kl)
    (v0 : Value) (f : Value → List (Value × Value)) (hvf : (∃ j, l[j]? = some (key, v0) ∧ f = fun x => l.set j (key, x)) ∨ ((∀ p ∈ l, p.1 ≠ key) ∧ v0 = z ∧ f = fun x => l ++ [(key, x)])) :
    (Instr.lookup t (.map (some b)) key false).run P w = .ok v0 w ∧ ∃ w1 st, (Instr.mapEntry t (.map (some b)) key).run P w = .ok (.tuple #[v0, .int .i64 st]) w1 ∧ w.mapTurned w1 b ∧ StoreAt P k t b w1 st f ∧
      (Instr.lookup t (.map (some b)) key false).run P w1 = .ok v0 w1 := by
  rcases hvf with ⟨j, hj, rfl⟩ | ⟨hn, rfl, rfl⟩
  · refine ⟨h.look_some false K ht hkey hj, ?_⟩
    obtain ⟨w1, st, h1, h2, h3, h4⟩ := h.entry_some K ht hkey hj
    exact ⟨w1, st, h1, h2, h3, h4.look_some false K ht hkey hj⟩
  · refine ⟨h.look_none false K ht hz hkey hn, ?_⟩
    obtain ⟨w1, st, h1, h2, h3, h4⟩ := h.entry_none K ht hz hkey hn
    exact ⟨w1, st, h1, h2, h3, h4.look_some false K ht hkey (j := l.length) (by simp)⟩
theorem mapTurned_heap {w w1 : World} (h : w.mapTurned w1 b) {g : Nat} (hg : g ≠ b) : w1.heap[g]? = w.heap[g]? := by
  obtain ⟨es, c, es', c', hb, rfl⟩ := h
  unfold setBlock
  rw [Array.getElem?_setIfInBounds_ne (by omega)]
theorem wpList_len_at {ops : Array Oper} {rest : List Oper} {o : Oper} {a : Act} {Q : Exit → Act → World → Prop} (hg : o.guard = none) (m : Operand) (t : TypeId) (hop : o.op = Op.call { callee := Callee.builtin Builtin.len, args := #[m], argTypes := #[t] })
    (ht : P.underlying t = some (.map k e)) (hm : a.eval m = .map (some b)) (hown : MapAt P k w b l)
    (hK : wpList P ops Q rest (a.put o.dst (.int .i64 l.length)) w) :
    wpList P ops Q (o :: rest) a w := by
  refine wpList_plain hg fun K' hK' => ?_
  unfold Oper.wp
  simp [execOp, hop, resolve, invoke, builtin, hm, hown.len ht o.type, Result.andThen]
  exact hK' _ _ hK
end
end Go.Proofs.YtilhadckmhphgaaDoor
