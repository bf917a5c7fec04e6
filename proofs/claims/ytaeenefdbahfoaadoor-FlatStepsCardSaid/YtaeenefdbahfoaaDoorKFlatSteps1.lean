/- Parts of the proof (FlatSteps), merged out of our texts by wip/tools/pack.py: WN, WNEv, WMore, L0, Matrix, Axis, Laid, LaidRaw, WTab, WEqStruct, WRepsOne, WInv, H0, LaidS, LaidPt, LaidRC, Mp, PtKey, Mp2, Sort. -/
import Derived.Test.YtaeenefdbahfoaaDoorKFlatSteps0
import Derived.Test.YtaeenefdbahfoaaDoorProg
import Derived.WalkKit
import Derived.WalkSpells
import Derived.WalkLawsBesides
import Derived.Deep.LoopGhost
import Derived.Deep.QuietTactic
import Derived.BigQuiet
import Derived.Outline
import Derived.Laws.Rows
import Derived.Test.YtaeenefdbahfoaaDoorRows
import Derived.Test.YtaeenefdbahfoaaDoorTie
import Derived.ProofKit
import Derived.LaidLaws
import Derived.LaidHandle
import Derived.LaidMore
import Derived.Lib.SmallJoins
import Derived.OpenShut
import Derived.ChangeArms
import Derived.SevenTiedAt
import Derived.Laws.StructEq
import Derived.Below
import Derived.Deep.Draws
import Derived.Deep.AppendLies
import Derived.Maps.AppendAt
import Derived.OwnWalk
import Derived.Laws.BytesArg
import Derived.Laws.MakeOwn
import Derived.Laws.OwnMore
import Derived.Deep.OwnRows
import Derived.Tactics
import Derived.Lib.ConvBytes
import Derived.Laws.Slices
import Derived.KernelRfl
import Derived.RowKit3
import Derived.WideLaws
import Derived.Deep.DeepCutAuto
import Derived.Deep.CutBlock
import Derived.Deep.RegionHeld3
import Derived.Lib.AppendStr
import Derived.ArgAppend
import Derived.Laws.IdiomCopy
import Derived.OrdersHeld
import Derived.Laws.BitsLemmas
import Derived.RowKit
import Derived.SizedLaws
import Derived.Carry
import Derived.Deep.Slices
import Derived.Deep.Fields
import Derived.Deep.Strs
import Derived.Maps.OwnSet
import Derived.DeepKeys4
import Derived.Shelf.SlSortCmp.NoneTotal
import Derived.Shelf.SlSortCmp.WholeK
import Derived.Shelf.Lay
namespace Go.Proofs.YtaeenefdbahfoaaDoorW.PrintWords
set_option linter.unusedSimpArgs false
set_option linter.unusedVariables false
open Go.RowKit
namespace Kd
/-- The cells one behind the other, element by element. -/
def chunks (sz : Nat) (n : Nat) (inner : List Value) : List (List Value) := (List.range n).map fun j => (inner.drop (j * sz)).take sz
theorem chunks_length (sz n : Nat) (inner : List Value) : (chunks sz n inner).length = n := by simp [chunks]
theorem chunks_at {sz n : Nat} {inner : List Value} {j : Nat} (hj : j < n) : (chunks sz n inner)[j]? = some ((inner.drop (j * sz)).take sz) := by simp [chunks, hj]
theorem chunks_get {sz n : Nat} {inner : List Value} {j : Nat} {c : List Value} (h : (chunks sz n inner)[j]? = some c) : c = (inner.drop (j * sz)).take sz := by
  have hj : j < n := by have := (List.getElem?_eq_some_iff.1 h).1; rwa [chunks_length] at this
  rw [chunks_at hj] at h
  injection h with h
  exact h.symm
theorem reps_raw {α : Type} {Rr : α → List Value → Prop} {sz : Nat} {xs : List α} {inner : List Value} (h : Reps Rr sz xs inner) (hR : ∀ x c, Rr x c → c.length = sz ∧ ∀ u ∈ c, u.oneCell' = true) : Reps (fun x cs => cs = x ∧ cs.length = sz ∧ ∀ u ∈ cs, u.oneCell' = true) sz (chunks sz xs.length inner) inner := by
  refine ⟨by rw [chunks_length]; exact h.1, fun j p hj => ?_⟩
  have hjl : j < xs.length := by have := (List.getElem?_eq_some_iff.1 hj).1; rwa [chunks_length] at this
  have hp := chunks_get hj
  exact ⟨hp.symm, hR _ _ (h.2 j _ (List.getElem?_eq_getElem hjl))⟩
section
variable {α : Type} {d : Kd α} {e base n cc g : Nat} {ok ok' okp S : Nat → Prop} {w w1 W W1 : World} {A : Option Addr} {u v v1 : Value} {xs : List α} {x : α} {c : List Value}
/-- A row of elements (type e) of the call's own; what the elements lead to is only read, and is not this row. -/
def N {α : Type} (d : Kd α) (e : Nat) (w : World) (base : Nat) (ok : Nat → Prop) (v : Value) (xs : List α) : Prop :=
  (∀ k, v.ownBlock = some k → ok k) ∧ ∃ rows : List (List Value), rows.length = xs.length ∧ (raw d.sz).R e w base (fun k => some k = v.ownBlock) v rows ∧ ∀ (j : Nat) (x : α) (c : List Value), xs[j]? = some x → rows[j]? = some c → FK d w (fun k => ok k ∧ some k ≠ v.ownBlock) x c
theorem raw_tight {sz : Nat} {rows : List (List Value)} (h : (raw sz).R e w base ok v rows) : (raw sz).R e w base (fun k => some k = v.ownBlock) v rows := R_tight rfl h
theorem R_N (h : d.R e w base ok v xs) : N d e w base ok v xs := by
  obtain ⟨h0, inner, ho, hr⟩ := h
  refine ⟨h0, chunks d.sz xs.length inner, chunks_length _ _ _, ⟨fun k hk => hk.symm, inner, by rw [chunks_length]; exact ho, reps_raw hr (fun x c hp => ⟨d.K_len (d.K_of_M hp), d.K_one (d.K_of_M hp)⟩)⟩, fun j x c hx hc => ?_⟩
  rw [chunks_get hc]
  exact FK_of_M (hr.2 j x hx)
theorem N_nil (d : Kd α) (e : Nat) (w : World) (base : Nat) (ok : Nat → Prop) : N d e w base ok (.slice none 0 0) [] := R_N (R_nil _ _ _ _ _)
theorem N_mono (h : N d e w base ok v xs) (hok : ∀ k, ok k → ok' k) : N d e w base ok' v xs := by
  obtain ⟨h0, rows, hl, hR, hf⟩ := h
  exact ⟨fun k hk => hok k (h0 k hk), rows, hl, hR, fun j x c hx hc => FK_mono (hf j x c hx hc) (fun k hk => ⟨hok k hk.1, hk.2⟩)⟩
theorem N_lt (h : N d e w base ok v xs) : ∀ k, v.ownBlock = some k → k < w.heap.size := by
  obtain ⟨_, rows, _, hR, _⟩ := h
  exact R_lt hR
theorem N_base (h : N d e w base ok v xs) : ∀ k, v.ownBlock = some k → base ≤ k := by
  obtain ⟨_, rows, _, hR, _⟩ := h
  exact R_base hR
theorem N_bound (h : N d e w base ok v xs) : N d e w base (fun k => ok k ∧ k < w.heap.size) v xs := by
  have hlt := N_lt h
  obtain ⟨h0, rows, hl, hR, hf⟩ := h
  exact ⟨fun k hk => ⟨h0 k hk, hlt k hk⟩, rows, hl, hR, fun j x c hx hc => FK_mono (FK_bound (hf j x c hx hc)) (fun k hk => ⟨⟨hk.1.1, hk.2⟩, hk.1.2⟩)⟩
theorem N_lower {base' : Nat} (h : N d e w base ok v xs) (hb : base' ≤ base) : N d e w base' ok v xs := by
  obtain ⟨h0, rows, hl, hR, hf⟩ := h
  exact ⟨h0, rows, hl, R_lower hR hb, hf⟩
theorem N_step (h : N d e w base ok v xs) (hm : ∀ k, ok k → k < w.heap.size → w1.heap[k]? = w.heap[k]?) : N d e w1 base ok v xs := by
  obtain ⟨h0, rows, hl, hR, hf⟩ := h
  exact ⟨h0, rows, hl, R_step hR (fun k hk hlt => hm k (h0 k hk.symm) hlt), fun j x c hx hc => FK_step (hf j x c hx hc) (fun k hk hlt => hm k hk.1 hlt)⟩
theorem N_below (h : N d e w base ok v xs) (hb : Below w.heap.size w w1) : N d e w1 base ok v xs := N_step h (fun k _ hk => hb.block k hk)
theorem N_alloc (h : N d e w base ok v xs) (o : Obj) : N d e (w.alloc o) base ok v xs := N_below h (below_alloc (Below.refl _ _) o)
theorem N_drew (h : N d e w base ok v xs) : N d e w.drew base ok v xs := N_below h (below_drew (Below.refl _ _))
theorem N_drewN (h : N d e w base ok v xs) (m : Nat) : N d e (w.drewN m) base ok v xs := N_below h (pw_below_drewN (Below.refl _ _) m)
theorem N_elder' (h : N d e W base ok v xs) (hbase : ∀ k, u.ownBlock = some k → W.heap.size ≤ k) (hb : Below W.heap.size W w1) : N d e w1 base (fun k => ok k ∧ some k ≠ u.ownBlock) v xs :=
  N_mono (N_below (N_bound h) hb) (fun k hk => ⟨hk.1, fun he => by have := hbase k he.symm; have := hk.2; omega⟩)
theorem N_slice (h : N d e w base ok v xs) : ∃ A c, v = .slice A xs.length c := by
  obtain ⟨_, rows, hl, hR, _⟩ := h
  obtain ⟨A, c, he⟩ := R_slice hR
  exact ⟨A, c, by rw [he, hl]⟩
theorem N_reads' {n c : Nat} (h : N d e w base ok (.slice A n c) xs) : n = xs.length ∧ n ≤ c ∧ d.C w A xs.length xs := by
  obtain ⟨_, rows, hl, hR, hf⟩ := h
  obtain ⟨hn, hc, hC⟩ := R_reads' hR
  refine ⟨by omega, hc, ?_⟩
  rw [hl] at hC
  refine ⟨rfl, hC.2.1, fun hp => ?_⟩
  obtain ⟨ad, he, hcell⟩ := hC.2.2 hp
  refine ⟨ad, he, fun j p hj => ?_⟩
  have hjl : j < rows.length := by have := (List.getElem?_eq_some_iff.1 hj).1; omega
  obtain ⟨c', hcl, hK, hcc⟩ := hcell j _ (List.getElem?_eq_getElem hjl)
  have hk := FK_now (hf j p _ hj (List.getElem?_eq_getElem hjl))
  refine ⟨c', hcl, ?_, hcc⟩
  rw [show c' = rows[j] from hK.1]
  exact hk
/-- Element i: its cells, and what they lead to. -/
theorem N_elem {n cap : Nat} (h : N d e W base ok (.slice (some ⟨g, 0, none⟩) n cap) xs) (z : α) (i : Int) (h0 : 0 ≤ i) (h1 : i < n) :
    ∃ c, c.length = d.sz ∧ FK d W (fun k => ok k ∧ k ≠ g) (xs.getD i.toNat z) c ∧ (∀ j u, c[j]? = some u → W.cell? ⟨g, i.toNat * d.sz + j, none⟩ = some u) ∧ ∀ j, W.frozen? ⟨g, i.toNat * d.sz + j, none⟩ = false := by
  obtain ⟨_, rows, hl, hR, hf⟩ := h
  have hn := (R_reads' hR).1
  obtain ⟨c, hcl, hM, hcc, hfr⟩ := R_elem hR [] i h0 h1
  have hil : i.toNat < rows.length := by omega
  have hil' : i.toNat < xs.length := by omega
  have hc : c = rows[i.toNat] := by
    have h2 := hM.1
    rwa [List.getD_eq_getElem?_getD, List.getElem?_eq_getElem hil] at h2
  refine ⟨c, hcl, ?_, hcc, hfr⟩
  rw [List.getD_eq_getElem?_getD, List.getElem?_eq_getElem hil']
  exact FK_mono (hf _ _ _ (List.getElem?_eq_getElem hil') (by rw [hc]; exact List.getElem?_eq_getElem hil)) (fun k hk => ⟨hk.1, fun he => hk.2 (by rw [he]; simp [Value.ownBlock])⟩)
theorem N_get {ad : Addr} {n cap : Nat} (h : N d e W base ok (.slice (some ad) n cap) xs) (z : α) (i : Int) (h0 : 0 ≤ i) (h1 : i < n) :
    ∃ c, c.length = d.sz ∧ FK d W (fun k => ok k ∧ some k ≠ (Value.slice (some ad) n cap).ownBlock) (xs.getD i.toNat z) c ∧ ∀ j u, c[j]? = some u → W.cell? (ad.add (i.toNat * d.sz + j)) = some u := by
  obtain ⟨g, rfl⟩ : ∃ g, ad = ⟨g, 0, none⟩ := by
    obtain ⟨_, rows, _, hR, _⟩ := h
    exact R_head hR
  obtain ⟨c, hcl, hM, hcc, _⟩ := N_elem h z i h0 h1
  refine ⟨c, hcl, FK_mono hM (fun k hk => ⟨hk.1, fun he => hk.2 (by simpa [Value.ownBlock] using he)⟩), fun j u hu => ?_⟩
  rw [add_at, Nat.zero_add]
  exact hcc j u hu
end
end Kd
end Go.Proofs.YtaeenefdbahfoaaDoorW.PrintWords
namespace Go.Proofs.YtaeenefdbahfoaaDoorW.PrintWords
set_option linter.unusedSimpArgs false
set_option linter.unusedVariables false
open Go.RowKit
namespace Kd
section
variable {α : Type} {d : Kd α} {e base n cap g : Nat} {ok ok' okp : Nat → Prop} {w w1 W : World} {v v1 : Value} {xs ys : List α}
/-- What was made just now. -/
theorem N_made {rows : List (List Value)} (hR : (raw d.sz).R e w1 base (fun k => k = W.heap.size) v1 rows) (hg : W.grownBy w1 none) (hat : ∃ b, v1.ownBlock = some b ∧ W.heap.size ≤ b) (hl : rows.length = xs.length) (hf : ∀ (j : Nat) (x : α) (c : List Value), xs[j]? = some x → rows[j]? = some c → FK d W okp x c)
    (hok : ∀ k, okp k → ok k) (hfresh : ok W.heap.size) : N d e w1 base ok v1 xs := by
  obtain ⟨b, hb, hle⟩ := hat
  refine ⟨fun k hk => by rw [hR.1 k hk]; exact hfresh, rows, hl, raw_tight hR, fun j x c hx hc => ?_⟩
  refine FK_mono (FK_step (FK_bound (hf j x c hx hc)) (fun k hk hlt => hg.block k hlt (by simp))) (fun k hk => ⟨hok k hk.1, fun he => ?_⟩)
  rw [hb] at he
  injection he with he
  have := hk.2
  omega
end
section
variable {P : Program} {ops : Array Oper} {rest : List Oper} {o : Oper} {a : Act} {Q : Exit → Act → World → Prop} {Kc : Act → World → Prop} {α : Type}
/-- A literal '[]T{..}': inner its cells; what the elements lead to is okp. -/
theorem N_lit (d : Kd α) {w0 W : World} (base e : Nat) (hgd : o.guard = none) {N' : Tmp} (_hd : o.dst = some N') {xs : List α} {inner : List Value} {ok okp : Nat → Prop}
    (hrun : (execOp a.eval o).run P W = .ok (.value (.slice (some ⟨W.heap.size, 0, none⟩) xs.length xs.length)) (W.alloc (.cells inner.toArray e)))
    (hrep : Reps (FK d W okp) d.sz xs inner) (hok : ∀ k, okp k → ok k) (hfresh : ok W.heap.size) (HB : Below base w0 W) (hbase : base ≤ W.heap.size) (hm : xs.length ≤ 9223372036854775807)
    (h : ∀ v1 w1, N d e w1 base ok v1 xs → Below base w0 w1 → W.grownBy w1 none → (∃ b, v1.ownBlock = some b ∧ W.heap.size ≤ b) → wpList P ops Q rest (a.put o.dst v1) w1) :
    wpList P ops Q (o :: rest) a W := by
  refine R_lit (raw d.sz) base e hgd _hd (xs := chunks d.sz xs.length inner) (inner := inner) (ok := fun k => k = W.heap.size) (okp := fun _ => False) (by rw [chunks_length]; exact hrun) (reps_raw hrep (fun y c hk => ⟨d.K_len (FK_now hk), d.K_one (FK_now hk)⟩)) (fun _ hk => hk.elim) rfl HB hbase (by rw [chunks_length]; exact hm) ?_
  intro v1 w1 hr hb hg hat
  exact h v1 w1 (N_made hr hg hat (chunks_length _ _ _) (fun j y c hy hc => by rw [chunks_get hc]; exact hrep.2 j y hy) hok hfresh) hb hg hat
end
end Kd
end Go.Proofs.YtaeenefdbahfoaaDoorW.PrintWords
namespace Go.Proofs.YtaeenefdbahfoaaDoorW.PrintMore
set_option linter.unusedSimpArgs false
set_option linter.unusedVariables false
open Go.RowKit Go.Proofs.YtaeenefdbahfoaaDoorW.PrintWords
namespace Kd
open Go.Proofs.YtaeenefdbahfoaaDoorW.PrintWords.Kd
end Kd
namespace Kd
open Go.Proofs.YtaeenefdbahfoaaDoorW.PrintWords.Kd
section
variable {α : Type} {d : Kd α} {e base g N : Nat} {ok : Nat → Prop} {W w1 : World} {u v : Value} {xs : List α}
end
end Kd
/-- 'max' and 'min' of two whole numbers. -/
theorem max2_int (k k' : IntKind) (x y : Int) : Builtin.max2 (.int k x) (.int k' y) = pure (.int k (if x < y then y else x)) := by simp only [Builtin.max2, gt_iff_lt]
theorem min2_int (k k' : IntKind) (x y : Int) : Builtin.min2 (.int k x) (.int k' y) = pure (.int k (if y < x then y else x)) := by simp only [Builtin.min2]
theorem max_two (ats : Array TypeId) (ty : TypeId) (a b : Value) : Builtin.max_ ats ty #[a, b] = (Builtin.max2 a b >>= fun s => pure s) := by simp only [Builtin.max_, List.foldlM_cons, List.foldlM_nil]
theorem min_two (ats : Array TypeId) (ty : TypeId) (a b : Value) : Builtin.min_ ats ty #[a, b] = (Builtin.min2 a b >>= fun s => pure s) := by simp only [Builtin.min_, List.foldlM_cons, List.foldlM_nil]
theorem max_three (ats : Array TypeId) (ty : TypeId) (a b c : Value) : Builtin.max_ ats ty #[a, b, c] = (Builtin.max2 a b >>= fun s => Builtin.max2 s c >>= fun s => pure s) := by simp only [Builtin.max_, List.foldlM_cons, List.foldlM_nil]
theorem min_three (ats : Array TypeId) (ty : TypeId) (a b c : Value) : Builtin.min_ ats ty #[a, b, c] = (Builtin.min2 a b >>= fun s => Builtin.min2 s c >>= fun s => pure s) := by simp only [Builtin.min_, List.foldlM_cons, List.foldlM_nil]
theorem max_four (ats : Array TypeId) (ty : TypeId) (a b c d : Value) : Builtin.max_ ats ty #[a, b, c, d] = (Builtin.max2 a b >>= fun s => Builtin.max2 s c >>= fun s => Builtin.max2 s d >>= fun s => pure s) := by simp only [Builtin.max_, List.foldlM_cons, List.foldlM_nil]
theorem min_four (ats : Array TypeId) (ty : TypeId) (a b c d : Value) : Builtin.min_ ats ty #[a, b, c, d] = (Builtin.min2 a b >>= fun s => Builtin.min2 s c >>= fun s => Builtin.min2 s d >>= fun s => pure s) := by simp only [Builtin.min_, List.foldlM_cons, List.foldlM_nil]
end Go.Proofs.YtaeenefdbahfoaaDoorW.PrintMore
namespace Go.Proofs.YtaeenefdbahfoaaDoorW.PrintWords
open Go.RowKit
section
variable {P : Program} {ops : Array Oper} {rest : List Oper} {o : Oper} {a : Act} {Q : Exit → Act → World → Prop} {W : World}
/-- The operation is a call of this function (a cheap look ahead of a dear step). -/
theorem gate_callee {f : FuncId} {as_ : Array Operand} {ts : Array TypeId} (_ho : o.op = .call { callee := .value (.func f), args := as_, argTypes := ts }) (h : wpList P ops Q (o :: rest) a W) : wpList P ops Q (o :: rest) a W := h
/-- The operation is a builtin over these places. -/
theorem gate_builtin {b : Builtin} {xs : Array Operand} {ts : Array TypeId} (_ho : o.op = .call { callee := .builtin b, args := xs, argTypes := ts }) (h : wpList P ops Q (o :: rest) a W) : wpList P ops Q (o :: rest) a W := h
end
/-- A shift to the left, as Go tells it: a count beyond the width leaves nothing. -/
def shl (k : IntKind) (x y : Int) : Int := k.wrap (x * 2 ^ min y.toNat k.bits)
/-- A shift to the right: a count beyond the width leaves the sign. -/
def shr (k : IntKind) (x y : Int) : Int := x / 2 ^ min y.toNat k.bits
theorem shl_small {k : IntKind} {x y j : Int} (h : shl k x y = j) (hy : y ≤ k.bits) : k.wrap (x * 2 ^ y.toNat) = j := by rw [← h]; unfold shl; rw [Nat.min_eq_left (by omega)]
theorem shr_small {k : IntKind} {x y j : Int} (h : shr k x y = j) (hy : y ≤ k.bits) : x / 2 ^ y.toNat = j := by rw [← h]; unfold shr; rw [Nat.min_eq_left (by omega)]
/-- It says x = x, and that is its use: 'rw [drewN_self w]' fails where the world was not drawn, and the row behind it is skipped. -/
theorem drewN_self (w : World) (n : Nat) : w.drewN n = w.drewN n := rfl
namespace Kd
section
variable {α : Type} {d : Kd α} {e base : Nat} {ok : Nat → Prop} {W w1 : World} {v : Value} {xs : List α}
end
section
variable {α : Type} {d : Kd α} {e base g n cap : Nat} {ok oki okp : Nat → Prop} {W : World} {xs : List α} {i : Int} {c : List Value}
end
section
variable {α : Type} {d : Kd α} {e base b b' g N : Nat} {ok ok1 : Nat → Prop} {W W2 w1 : World} {u v : Value} {xs ys : List α} {S : Nat → Prop}
end
end Kd
end Go.Proofs.YtaeenefdbahfoaaDoorW.PrintWords
namespace Go.Proofs.YtaeenefdbahfoaaDoorW.PrintWords
open Go.RowKit
namespace Kd
/-- A row that is only read, told by its value: its form, its length, what it leads to (in ok). e and base say nothing; they make it as the others are. -/
def V {α : Type} (d : Kd α) (_e : Nat) (W : World) (_base : Nat) (ok : Nat → Prop) (v : Value) (xs : List α) : Prop := ∃ A c, v = .slice A xs.length c ∧ xs.length ≤ c ∧ F d W ok A xs.length xs
section
variable {α β : Type} {d : Kd α} {e base base' n m c g N' lo hi : Nat} {ok ok' S : Nat → Prop} {w W w1 : World} {A : Option Addr} {ad : Addr} {u v v1 : Value} {xs : List α}
theorem V_map (h : V d e W base ok v xs) (hF : ∀ A, F d W ok A xs.length xs → F d w1 ok' A xs.length xs) : V d e w1 base' ok' v xs := by
  obtain ⟨A, c, hv, hl, hf⟩ := h
  exact ⟨A, c, hv, hl, hF A hf⟩
theorem V_mk (hl : xs.length ≤ c) (hf : F d W ok A xs.length xs) : V d e W base ok (.slice A xs.length c) xs := ⟨A, c, rfl, hl, hf⟩
theorem V_slice (h : V d e W base ok v xs) : ∃ A c, v = .slice A xs.length c := by
  obtain ⟨A, c, hv, _⟩ := h
  exact ⟨A, c, hv⟩
theorem V_at (h : V d e W base ok (.slice A n c) xs) : n = xs.length ∧ n ≤ c ∧ F d W ok A xs.length xs := by
  obtain ⟨A', c', hv, hl, hf⟩ := h
  injection hv with ha hn hc
  subst ha; subst hc
  exact ⟨hn, by rw [hn]; exact hl, hf⟩
theorem V_reads' (h : V d e W base ok (.slice A n c) xs) : n = xs.length ∧ n ≤ c ∧ d.C W A xs.length xs := ⟨(V_at h).1, (V_at h).2.1, F_now (V_at h).2.2⟩
theorem V_nil (d : Kd α) (e : Nat) (W : World) (base : Nat) (ok : Nat → Prop) : V d e W base ok (.slice none 0 0) [] := ⟨none, 0, rfl, Nat.le_refl _, F_nil d W ok⟩
theorem R_V (h : d.R e W base ok v xs) : V d e W base' ok v xs := by
  obtain ⟨A, c, rfl⟩ := R_slice h
  exact ⟨A, c, rfl, (R_reads' h).2.1, R_F h⟩
theorem V_mono (h : V d e W base ok v xs) (hok : ∀ k, ok k → ok' k) : V d e W base ok' v xs := V_map h (fun _ hf => F_mono hf hok)
theorem V_lower (h : V d e W base ok v xs) (_ : base' ≤ base) : V d e W base' ok v xs := h
theorem V_below (h : V d e W base ok v xs) (hb : Below W.heap.size W w1) : V d e w1 base ok v xs := V_map h (fun _ hf => F_below hf hb)
theorem V_alloc (h : V d e W base ok v xs) (o : Obj) : V d e (W.alloc o) base ok v xs := V_map h (fun _ hf => F_alloc hf o)
theorem V_drew (h : V d e W base ok v xs) : V d e W.drew base ok v xs := V_map h (fun _ hf => F_drew hf)
theorem V_drewN (h : V d e W base ok v xs) (m : Nat) : V d e (W.drewN m) base ok v xs := V_map h (fun _ hf => F_drewN hf m)
theorem V_elder' (h : V d e W base ok v xs) (hbase : ∀ k, u.ownBlock = some k → W.heap.size ≤ k) (hb : Below W.heap.size W w1) : V d e w1 base (fun k => ok k ∧ some k ≠ u.ownBlock) v xs := V_map h (fun _ hf => F_elder' hf hbase hb)
theorem V_elderB (h : V d e W base ok v xs) (a : Nat) (ha : W.heap.size ≤ a) : V d e W base (fun k => ok k ∧ k ≠ a) v xs := V_map h (fun _ hf => F_elderB hf a ha)
/-- An element that is itself a row: its one cell. -/
theorem FK_slice_open {l : List α} {cs : List Value} (h : FK (Kd.slice e d) W ok l cs) : ∃ A c, cs = [.slice A l.length c] ∧ l.length ≤ c ∧ F d W ok A l.length l := by
  obtain ⟨A, c, rfl, hl, _⟩ := FK_now h
  refine ⟨A, c, rfl, hl, fun W' hW => ?_⟩
  obtain ⟨A', c', he, _, g'⟩ := h W' hW
  injection he with he _
  injection he with ha _ _
  rw [ha]
  exact g'
theorem FK_slice_mk {l : List α} (hl : l.length ≤ c) (hf : F d W ok A l.length l) : FK (Kd.slice e d) W ok l [.slice A l.length c] := fun W' hW => ⟨A, c, rfl, hl, hf W' hW⟩
theorem R_newM {M : Nat → Prop} (h : d.R e w1 W.heap.size ok v xs) (hle : w.heap.size ≤ W.heap.size) (hM : ∀ k, w.heap.size ≤ k → M k) : d.R e w1 W.heap.size (fun k => M k ∧ ok k) v xs := R_mono (R_bound h) (fun k hk => ⟨hM k (Nat.le_trans hle hk.2.1), hk.1⟩)
end
end Kd
end Go.Proofs.YtaeenefdbahfoaaDoorW.PrintWords
namespace Go.Proofs.YtaeenefdbahfoaaDoor
set_option linter.unusedSimpArgs false
set_option linter.unusedVariables false
open Go.RowKit Go.Proofs.YtaeenefdbahfoaaDoorW.PrintWords Go.Proofs.YtaeenefdbahfoaaDoorW.PrintLast Go.Proofs.YtaeenefdbahfoaaDoorW.PrintMore
theorem bset {w W : World} (h : Below w.heap.size w W) (b o : Nat) (hb : w.heap.size ≤ b) (v : Value) : Below w.heap.size w (W.setCell ⟨b, o, none⟩ v) := h.setCell (p := ⟨b, o, none⟩) hb v
theorem below_alloc2 {B : Nat} {w W : World} (h : Below B w W) (hB : B ≤ W.heap.size) (o : Obj) : Below B w (W.alloc o) := h.alloc hB o
theorem one_new (w : World) (c1 : Array Value) (t1 : Nat) : ∃ w1, w1 = w.alloc (.cells c1 t1) ∧ (∀ j v, c1[j]? = some v → w1.cell? ⟨w.heap.size, j, none⟩ = some v) ∧ w.heap.size < w1.heap.size ∧ Below w.heap.size w w1 :=
  ⟨_, rfl, fun j v hv => by simpa using hv, by simp, below_alloc (Below.refl _ _) _⟩
theorem two_new (w : World) (c1 c2 : Array Value) (t1 t2 : Nat) : ∃ w2, w2 = (w.alloc (.cells c1 t1)).alloc (.cells c2 t2) ∧ (∀ j v, c1[j]? = some v → w2.cell? ⟨w.heap.size, j, none⟩ = some v) ∧ (∀ j v, c2[j]? = some v → w2.cell? ⟨w.heap.size + 1, j, none⟩ = some v) ∧ w.heap.size + 1 < w2.heap.size ∧ Below w.heap.size w w2 := by
  obtain ⟨w1, e1, h1, s1, b1⟩ := one_new w c1 t1
  obtain ⟨w2, e2, h2, s2, b2⟩ := one_new w1 c2 t2
  have z : w1.heap.size = w.heap.size + 1 := by rw [e1]; simp
  exact ⟨w2, by rw [e2, e1], fun j v hv => (b2.cell (p := ⟨w.heap.size, j, none⟩) s1).trans (h1 j v hv), fun j v hv => by rw [← z]; exact h2 j v hv, by omega, b1.trans (b2.mono (by omega))⟩
theorem and_1 (n : Int) : bits .and .i64 n 1 = n % 2 := by
  have hm : (BitVec.ofInt 64 1).toNat = 2 ^ 1 - 1 := by decide
  have key : (BitVec.ofInt 64 n &&& BitVec.ofInt 64 1).toNat = (n % ((2 ^ 64 : Nat) : Int)).toNat % 2 ^ 1 := by
    rw [BitVec.toNat_and, BitVec.toNat_ofInt, hm, Nat.and_two_pow_sub_one_eq_mod]
  show IntKind.i64.wrap ((BitVec.ofInt 64 n &&& BitVec.ofInt 64 1).toNat : Nat) = n % 2
  rw [key, IntKind.wrap_i64]
  omega
theorem and_255 (n : Int) : bits .and .i64 n 255 = n % 256 := by
  have hm : (BitVec.ofInt 64 255).toNat = 2 ^ 8 - 1 := by decide
  have key : (BitVec.ofInt 64 n &&& BitVec.ofInt 64 255).toNat = (n % ((2 ^ 64 : Nat) : Int)).toNat % 2 ^ 8 := by
    rw [BitVec.toNat_and, BitVec.toNat_ofInt, hm, Nat.and_two_pow_sub_one_eq_mod]
  show IntKind.i64.wrap ((BitVec.ofInt 64 n &&& BitVec.ofInt 64 255).toNat : Nat) = n % 256
  rw [key, IntKind.wrap_i64]
  omega
/-- Go's remainder by a positive number -/
theorem tmod_range (x m : Int) (hm : 0 < m) : -m < x.tmod m ∧ x.tmod m < m := by
  rcases Int.le_total 0 x with h | h
  · rw [Int.tmod_eq_emod_of_nonneg h]
    have := Int.emod_nonneg x (show m ≠ 0 by omega)
    have := Int.emod_lt_of_pos x hm
    omega
  · have e : x.tmod m = -((-x).tmod m) := by rw [Int.neg_tmod, Int.neg_neg]
    rw [e, Int.tmod_eq_emod_of_nonneg (show 0 ≤ -x by omega)]
    have := Int.emod_nonneg (-x) (show m ≠ 0 by omega)
    have := Int.emod_lt_of_pos (-x) hm
    omega
section
variable {P : Program} {ops : Array Oper} {rest : List Oper} {o : Oper} {a : Act} {Q : Exit → Act → World → Prop} {α : Type}
/-- append(v, x) of one element of a flat kind: the goal's world is W with the variadic's box B. -/
theorem app1 (d : Kd α) (base : Nat) (s x : Operand) (t e : TypeId) (z : Value) (bytes : Nat) {w0 W : World} (v : Value) (xs : List α) (p : α) (cs : List Value) (B : Nat)
    (hgd : o.guard = none) (ho : o.op = .call { callee := .builtin .append, args := #[s, x], argTypes := #[t, t] })
    (ht : P.underlying t = some (.slice e)) (hinfo : (P.info? e).map (fun i => (i.zero, i.size, i.bytes)) = some (some z, d.sz, bytes)) (hz : z.cells.size = d.sz) (hs0 : 0 < d.sz) (hb0 : 0 < bytes)
    (hs : a.eval s = v) (hB : W.heap.size = B) (hx : a.eval x = .slice (some ⟨B, 0, none⟩) 1 1) (hp : d.M W base (fun _ => False) p cs)
    (HO : d.R e W base (fun _ => True) v xs) (HB : Below base w0 W) (hbase : base ≤ W.heap.size) (hl : (xs.length + 1) * bytes ≤ 140737488355328)
    (h : ∀ v1 w1, d.R e w1 base (fun _ => True) v1 (xs ++ [p]) → Below base w0 w1 → wpList P ops Q rest (a.put o.dst v1) w1) :
    wpList P ops Q (o :: rest) a (W.alloc (.cells cs.toArray e)) := by
  subst hB
  exact Kd.R_append d base hgd s x t e z bytes ho ht hinfo hz hs0 hb0 v xs p cs (fun _ => True) (fun _ => False) hs hx hp (fun _ h => h.elim) (fun _ _ => trivial) HO HB hbase hl (fun v1 w1 h1 h2 _ _ => h v1 w1 h1 h2)
/-- append(v, ys...): ys is read; the kind is flat. -/
theorem appN (d : Kd α) (base : Nat) (s x : Operand) (t e : TypeId) (z : Value) (bytes : Nat) {w0 W : World} (v : Value) (xs ys : List α) (A : Option Addr) (c : Nat)
    (hgd : o.guard = none) (ho : o.op = .call { callee := .builtin .append, args := #[s, x], argTypes := #[t, t] })
    (ht : P.underlying t = some (.slice e)) (hinfo : (P.info? e).map (fun i => (i.zero, i.size, i.bytes)) = some (some z, d.sz, bytes)) (hz : z.cells.size = d.sz) (hs0 : 0 < d.sz) (hb0 : 0 < bytes)
    (hs : a.eval s = v) (hx : a.eval x = .slice A ys.length c) (hKM : ∀ x cs, d.K W x cs → d.M W base (fun _ => False) x cs)
    (HO : d.R e W base (fun _ => True) v xs) (HR : d.C W A ys.length ys) (HB : Below base w0 W) (hbase : base ≤ W.heap.size) (hl : (xs.length + ys.length) * bytes ≤ 140737488355328)
    (h : ∀ v1 w1, d.R e w1 base (fun _ => True) v1 (xs ++ ys) → Below base w0 w1 → wpList P ops Q rest (a.put o.dst v1) w1) :
    wpList P ops Q (o :: rest) a W :=
  Kd.R_append_rows d base hgd s x t e z bytes ho ht hinfo hz hs0 hb0 v xs ys A ys.length c (fun _ => True) (fun _ => False) hs hx HO HR hKM (fun _ h => h.elim) (fun _ _ => trivial) HB hbase hl (fun v1 w1 h1 h2 _ _ => h v1 w1 h1 h2)
end
end Go.Proofs.YtaeenefdbahfoaaDoor
namespace Go.Proofs.YtaeenefdbahfoaaDoor
set_option linter.unusedSimpArgs false
set_option linter.unusedVariables false
open Go.RowKit Go.Proofs.YtaeenefdbahfoaaDoorW.PrintWords Go.Proofs.YtaeenefdbahfoaaDoorW.PrintLast Go.Proofs.YtaeenefdbahfoaaDoorW.PrintMore
end Go.Proofs.YtaeenefdbahfoaaDoor
namespace Go.Proofs.YtaeenefdbahfoaaDoor
set_option linter.unusedSimpArgs false
set_option linter.unusedVariables false
open Go.RowKit Go.Proofs.YtaeenefdbahfoaaDoorW.PrintWords Go.Proofs.YtaeenefdbahfoaaDoorW.PrintLast Go.Proofs.YtaeenefdbahfoaaDoorW.PrintMore
def sixI : List Int := [1, 0, 0, 1, -1, 1, -1, 0, 0, -1, 1, -1]
def sixV : List Value := sixI.map (Value.int .i64)
/-- the table of six points lies in its variable -/
structure Six (w : World) : Prop where
  sz : 0 < w.heap.size
  at_ : ∀ j v, sixV[j]? = some v → w.cell? ⟨0, j, none⟩ = some v
theorem Six.below {w w' : World} (h : Six w) (hb : Below w.heap.size w w') : Six w' :=
  ⟨Nat.lt_of_lt_of_le h.sz hb.size, fun j v hv => (hb.cell (p := ⟨0, j, none⟩) h.sz).trans (h.at_ j v hv)⟩
theorem Six.cells {w : World} (h : Six w) : w.cell? ⟨0, 0, none⟩ = some (.int .i64 1) ∧ w.cell? ⟨0, 1, none⟩ = some (.int .i64 0) ∧ w.cell? ⟨0, 2, none⟩ = some (.int .i64 0) ∧ w.cell? ⟨0, 3, none⟩ = some (.int .i64 1) ∧ w.cell? ⟨0, 4, none⟩ = some (.int .i64 (-1)) ∧ w.cell? ⟨0, 5, none⟩ = some (.int .i64 1) ∧ w.cell? ⟨0, 6, none⟩ = some (.int .i64 (-1)) ∧ w.cell? ⟨0, 7, none⟩ = some (.int .i64 0) ∧ w.cell? ⟨0, 8, none⟩ = some (.int .i64 0) ∧ w.cell? ⟨0, 9, none⟩ = some (.int .i64 (-1)) ∧ w.cell? ⟨0, 10, none⟩ = some (.int .i64 1) ∧ w.cell? ⟨0, 11, none⟩ = some (.int .i64 (-1)) :=
  ⟨h.at_ 0 _ rfl, h.at_ 1 _ rfl, h.at_ 2 _ rfl, h.at_ 3 _ rfl, h.at_ 4 _ rfl, h.at_ 5 _ rfl, h.at_ 6 _ rfl, h.at_ 7 _ rfl, h.at_ 8 _ rfl, h.at_ 9 _ rfl, h.at_ 10 _ rfl, h.at_ 11 _ rfl⟩
def sixVal : Value := .agg #[.int .i64 1, .int .i64 0, .int .i64 0, .int .i64 1, .int .i64 (-1), .int .i64 1, .int .i64 (-1), .int .i64 0, .int .i64 0, .int .i64 (-1), .int .i64 1, .int .i64 (-1)]
theorem six_any (w : World) (h : Six w) :
    Calls Tryd.prog 32 #[] w fun e w' => e = .returned sixVal ∧ Below w.heap.size w w' := by
  have hr := fun o => (h.below ((Below.refl _ _).alloc (Nat.le_refl _) o)).cells
  have c0 := fun o => (hr o).1
  have c1 := fun o => (hr o).2.1
  have c2 := fun o => (hr o).2.2.1
  have c3 := fun o => (hr o).2.2.2.1
  have c4 := fun o => (hr o).2.2.2.2.1
  have c5 := fun o => (hr o).2.2.2.2.2.1
  have c6 := fun o => (hr o).2.2.2.2.2.2.1
  have c7 := fun o => (hr o).2.2.2.2.2.2.2.1
  have c8 := fun o => (hr o).2.2.2.2.2.2.2.2.1
  have c9 := fun o => (hr o).2.2.2.2.2.2.2.2.2.1
  have c10 := fun o => (hr o).2.2.2.2.2.2.2.2.2.2.1
  have c11 := fun o => (hr o).2.2.2.2.2.2.2.2.2.2.2
  clear hr
  go_enter Tryd.func32, Tryd.ntmps32
  go_wp2
  exact bodyPost_ret (v := sixVal) (by simp [sixVal, results, Tryd.results32, go_sem]) rfl ⟨rfl, (by with_reducible repeat (first | apply below_alloc | apply pw_below_drewN | apply below_drew | refine bset ?_ _ _ (by omega) _ | exact Below.refl _ _))⟩
end Go.Proofs.YtaeenefdbahfoaaDoor
namespace Go.Proofs.YtaeenefdbahfoaaDoor
set_option linter.unusedSimpArgs false
set_option linter.unusedVariables false
open Go.ChangeShapes Go.WideShapes Go.ChangeAt Go.RowKit
theorem ownP : ownKnob Tryd.prog.godebug = none := by kernel_rfl
theorem sixN : Tryd.prog.globalNamed "honeycomb/axis.six" = some 0 := by kernel_rfl
theorem sixT : (Tryd.prog.globals[0]?).map (·.type) = some 69 := by kernel_rfl
theorem cellsSix : Tryd.prog.cellsOf 69 = 12 := by kernel_rfl
theorem cellsPt : Tryd.prog.cellsOf 63 = 2 := by kernel_rfl
theorem cellsI64 : Tryd.prog.cellsOf 2 = 1 := by kernel_rfl
theorem point_of_trod {w : World} {fuel : Nat} {c0 c1 : Value} {x y : Int} {p : List MemPlace} (h : DataW.trod (fun _ => ()) Tryd.prog w 0 (fun _ => true) false fuel 63 [c0, c1] = some (.agg [.lit (.int .i64 x), .lit (.int .i64 y)], p)) : c0 = .int .i64 x ∧ c1 = .int .i64 y := by
  obtain ⟨xs, n, _, hx, _, hl, hf⟩ := DataW.trod_struct Tryd.underlying63 h
  have f0 := hf 0 _ rfl
  have f1 := hf 1 _ rfl
  obtain ⟨y0, y1, rfl⟩ : ∃ y0 y1, xs = [y0, y1] := by
    match xs, hl with
    | [a, b], _ => exact ⟨a, b, rfl⟩
  simp [cellsI64] at f0 f1
  obtain ⟨n0, e0, rfl, _⟩ := DataW.trod_int Tryd.underlying2 f0
  obtain ⟨n1, e1, rfl, _⟩ := DataW.trod_int Tryd.underlying2 f1
  simp at hx e0 e1
  obtain ⟨⟨rfl, rfl⟩, _⟩ := hx
  exact ⟨e0, e1⟩
set_option maxRecDepth 100000 in
theorem six_of_vars {W : World} {ps : List MemPlace} {rest : List (String × DataW Unit)} (h : DataW.LaidVars Tryd.prog W (("honeycomb/axis.six", Rows.laid_honeycomb_axis_six) :: rest) ps) : Six W := by
  obtain ⟨g, t, cs, fuel, p, q, hg, ht, hvar, hd, _, _⟩ := h
  obtain rfl := Option.some.inj (sixN.symm.trans hg)
  obtain rfl := Option.some.inj (sixT.symm.trans ht)
  obtain ⟨xs, n, _, hx, hcl, hl, hf⟩ := DataW.trod_array Tryd.underlying69 hd
  rw [cellsSix] at hcl
  obtain ⟨l⟩ := cs
  change l.length = 12 at hcl
  obtain ⟨c0, c1, c2, c3, c4, c5, c6, c7, c8, c9, c10, c11, rfl⟩ : ∃ c0 c1 c2 c3 c4 c5 c6 c7 c8 c9 c10 c11, l = [c0, c1, c2, c3, c4, c5, c6, c7, c8, c9, c10, c11] := by
    match l, hcl with
    | [a, b, c, d, e, f, g, h, i, j, k, l], _ => exact ⟨a, b, c, d, e, f, g, h, i, j, k, l, rfl⟩
  obtain ⟨y0, y1, y2, y3, y4, y5, rfl⟩ : ∃ y0 y1 y2 y3 y4 y5, xs = [y0, y1, y2, y3, y4, y5] := by
    match xs, hl with
    | [a, b, c, d, e, f], _ => exact ⟨a, b, c, d, e, f, rfl⟩
  simp only [Rows.laid_honeycomb_axis_six, Prod.mk.injEq, DataW.agg.injEq, List.map_cons, List.map_nil, List.cons.injEq, and_true] at hx
  obtain ⟨⟨e0, e1, e2, e3, e4, e5⟩, _⟩ := hx
  have key : ∀ (i : Nat) (a b : Value) (y : DataW Unit × List MemPlace) (u v : Int), i < 6 → (([c0, c1, c2, c3, c4, c5, c6, c7, c8, c9, c10, c11].drop (i * 2)).take 2) = [a, b] → ([y0, y1, y2, y3, y4, y5] : List _)[i]? = some y → .agg [.lit (.int .i64 u), .lit (.int .i64 v)] = y.1 → a = .int .i64 u ∧ b = .int .i64 v := by
    intro i a b y u v hi hab hy hd1
    have := hf i hi
    rw [cellsPt, hab, hy] at this
    obtain ⟨y1', y2'⟩ := y
    change _ = y1' at hd1
    subst hd1
    exact point_of_trod this
  obtain ⟨rfl, rfl⟩ := key 0 c0 c1 y0 1 0 (by omega) rfl rfl e0
  obtain ⟨rfl, rfl⟩ := key 1 c2 c3 y1 0 1 (by omega) rfl rfl e1
  obtain ⟨rfl, rfl⟩ := key 2 c4 c5 y2 (-1) 1 (by omega) rfl rfl e2
  obtain ⟨rfl, rfl⟩ := key 3 c6 c7 y3 (-1) 0 (by omega) rfl rfl e3
  obtain ⟨rfl, rfl⟩ := key 4 c8 c9 y4 0 (-1) (by omega) rfl rfl e4
  obtain ⟨rfl, rfl⟩ := key 5 c10 c11 y5 1 (-1) (by omega) rfl rfl e5
  have hcell := fun i => World.var?_cell sixN hvar i
  refine ⟨?_, fun j v hj => ?_⟩
  · have := hcell 0
    exact World.block_lt_of_cell? W ⟨0, 0, none⟩ (by simpa using this)
  · have := hcell j
    rw [this]
    simpa [sixV, sixI] using hj
def laid1 : List (String × DataW Unit) := [("honeycomb/axis.six", Rows.laid_honeycomb_axis_six)]
theorem six_of_laid {W : World} (h : laidMetH Tryd.prog laid1 W) : Six W := by
  have h' : laidMet Tryd.prog laid1 W := h
  obtain ⟨ps, hv, _⟩ := h'
  exact six_of_vars hv
theorem door_met (os : Os) (args : Array Value) : laidMetH Tryd.prog laid1 ((World.doorLaid Tryd.prog 27 os).forCall (fun _ _ => 0) ⟨#[], args, []⟩).memory :=
  laidMetH_of_parts3 (fuel := 8) (laidMet_of_run' 8 (by kernel_rfl) (by kernel_rfl)) (by kernel_rfl) (by kernel_rfl)
section
variable {H : Type} {enc : TypeId × Value → H} {w : World} {base : Nat} {spare : Nat → Bool} {held : Bool}
end
end Go.Proofs.YtaeenefdbahfoaaDoor
namespace Go.Proofs.YtaeenefdbahfoaaDoor
set_option linter.unusedSimpArgs false
set_option linter.unusedVariables false
open Go.ChangeShapes Go.WideShapes Go.ChangeAt Go.RowKit
section
variable {H : Type} {enc : TypeId × Value → H} {w : World} {base : Nat} {spare : Nat → Bool} {held : Bool}
theorem cellsRaw : Tryd.prog.cellsOf 25 = 5 := by kernel_rfl
theorem cellsU2 : Tryd.prog.cellsOf 23 = 2 := by kernel_rfl
theorem cellsU64 : Tryd.prog.cellsOf 22 = 1 := by kernel_rfl
theorem cellsI : Tryd.prog.cellsOf 3 = 1 := by kernel_rfl
theorem open_u2 {fuel : Nat} {c0 c1 : Value} {x : DataW H × List MemPlace} (h : DataW.trod enc Tryd.prog w base spare held fuel 23 [c0, c1] = some x) :
    ∃ a b : Int, c0 = .int .u64 a ∧ c1 = .int .u64 b ∧ x = (.agg [.lit (.int .u64 a), .lit (.int .u64 b)], []) ∧ (Lit.int .u64 a).wf = true ∧ (Lit.int .u64 b).wf = true := by
  obtain ⟨zs, m, _, hz, _, hzl, hgg⟩ := DataW.trod_array Tryd.underlying23 h
  obtain ⟨z0, z1, rfl⟩ : ∃ z0 z1, zs = [z0, z1] := by
    match zs, hzl with
    | [x, y], _ => exact ⟨x, y, rfl⟩
  have g0 := hgg 0 (by decide)
  have g1 := hgg 1 (by decide)
  simp [cellsU64] at g0 g1
  obtain ⟨a, e0, rfl, wa⟩ := DataW.trod_int Tryd.underlying22 g0
  obtain ⟨b, e1, rfl, wb⟩ := DataW.trod_int Tryd.underlying22 g1
  simp at e0 e1 hz
  exact ⟨a, b, e0, e1, hz, wa, wb⟩
set_option maxRecDepth 100000 in
theorem open_raw {r : Reach} {b0 : Nat} {v : Value} {d : DataW H} {p : List MemPlace} (hv : Value.okWide Tryd.prog w r b0 25 v) (h : DataW.Trod enc Tryd.prog w base spare held 25 v d p) :
    ∃ l a b c e : Int, v = .agg #[.int .i64 l, .int .u64 a, .int .u64 b, .int .u64 c, .int .u64 e] ∧ d = .agg [.lit (.int .i64 l), .agg [.lit (.int .u64 a), .lit (.int .u64 b)], .agg [.lit (.int .u64 c), .lit (.int .u64 e)]] ∧ p = [] ∧
      (Lit.int .i64 l).wf = true ∧ (Lit.int .u64 a).wf = true ∧ (Lit.int .u64 b).wf = true ∧ (Lit.int .u64 c).wf = true ∧ (Lit.int .u64 e).wf = true := by
  obtain ⟨cs, rfl, hsz⟩ := okWide_struct Tryd.underlying25 hv
  obtain ⟨l⟩ := cs
  have hl : l.length = 5 := by rw [cellsRaw] at hsz; simpa using hsz
  obtain ⟨c0, c1, c2, c3, c4, rfl⟩ : ∃ c0 c1 c2 c3 c4, l = [c0, c1, c2, c3, c4] := by
    match l, hl with
    | [x, y, z, u, v], _ => exact ⟨x, y, z, u, v, rfl⟩
  obtain ⟨fuel, hf⟩ := h
  obtain ⟨xs, n, _, hx, _, hxl, hff⟩ := DataW.trod_struct Tryd.underlying25 hf
  obtain ⟨y0, y1, y2, rfl⟩ : ∃ y0 y1 y2, xs = [y0, y1, y2] := by
    match xs, hxl with
    | [x, y, z], _ => exact ⟨x, y, z, rfl⟩
  have f0 := hff 0 _ rfl
  have f1 := hff 1 _ rfl
  have f2 := hff 2 _ rfl
  simp [Value.cells, cellsU2, cellsI] at f0 f1 f2
  obtain ⟨l, e0, rfl, wl⟩ := DataW.trod_int Tryd.underlying3 f0
  obtain ⟨a, b, rfl, rfl, rfl, wa, wb⟩ := open_u2 f1
  obtain ⟨c, e, rfl, rfl, rfl, wc, we⟩ := open_u2 f2
  simp at e0 hx
  subst e0
  obtain ⟨rfl, rfl⟩ := hx
  exact ⟨l, a, b, c, e, rfl, rfl, rfl, wl, wa, wb, wc, we⟩
theorem shut_u2 {a b : Int} (n : Nat) (wa : (Lit.int .u64 a).wf = true) (wb : (Lit.int .u64 b).wf = true) :
    DataW.trod enc Tryd.prog w base spare held (n + 2) 23 [.int .u64 a, .int .u64 b] = some (.agg [.lit (.int .u64 a), .lit (.int .u64 b)], []) := by
  rw [DataW.trod_step]
  unfold DataW.trodStep
  simp only [Tryd.underlying23]
  rw [if_pos (by rw [cellsU2]; rfl), show List.range 2 = [0, 1] from rfl, List.mapM_cons, List.mapM_cons, List.mapM_nil]
  simp [cellsU64, DataW.trod, Tryd.underlying22, wa, wb]
set_option maxRecDepth 100000 in
theorem shut_raw {l a b c e : Int} (wl : (Lit.int .i64 l).wf = true) (wa : (Lit.int .u64 a).wf = true) (wb : (Lit.int .u64 b).wf = true) (wc : (Lit.int .u64 c).wf = true) (we : (Lit.int .u64 e).wf = true) :
    DataW.Trod enc Tryd.prog w base spare held 25 (.agg #[.int .i64 l, .int .u64 a, .int .u64 b, .int .u64 c, .int .u64 e]) (.agg [.lit (.int .i64 l), .agg [.lit (.int .u64 a), .lit (.int .u64 b)], .agg [.lit (.int .u64 c), .lit (.int .u64 e)]]) [] := by
  have tl : DataW.trod enc Tryd.prog w base spare held 2 3 [.int .i64 l] = some (.lit (.int .i64 l), []) := by
    simp [DataW.trod, Tryd.underlying3, wl]
  have t1 := shut_u2 (enc := enc) (w := w) (base := base) (spare := spare) (held := held) 0 wa wb
  have t2 := shut_u2 (enc := enc) (w := w) (base := base) (spare := spare) (held := held) 0 wc we
  have := Go.ChangeShapes.trod_struct_mk (enc := enc) (w := w) (base := base) (spare := spare) (held := held) (n := 2) (cs := [.int .i64 l, .int .u64 a, .int .u64 b, .int .u64 c, .int .u64 e])
    (xs := [(.lit (.int .i64 l), []), (.agg [.lit (.int .u64 a), .lit (.int .u64 b)], []), (.agg [.lit (.int .u64 c), .lit (.int .u64 e)], [])]) Tryd.underlying25 (by rw [cellsRaw]; rfl) (by simp [cellsI, cellsU2, tl, t1, t2])
  exact ⟨3, this⟩
theorem u64_rng {a : Int} (h : (Lit.int .u64 a).wf = true) : 0 ≤ a ∧ a < 18446744073709551616 := by
  simp [Lit.wf, IntKind.min, IntKind.max, IntKind.signed, IntKind.bits] at h
  omega
end
end Go.Proofs.YtaeenefdbahfoaaDoor
namespace Go.Proofs.YtaeenefdbahfoaaDoorW.PrintLast
set_option linter.unusedSimpArgs false
set_option linter.unusedVariables false
open Go.Proofs.YtaeenefdbahfoaaDoorW.PrintWords (Aside0)
def needsOf (md : Region.Mode) (o : Oper) : List Nat := (o.after.toList.filter (fun e => Region.binds md e)).map (fun e => e.on)
def clashOf (md : Region.Mode) (ops : Array Oper) (i : Nat) (oi : Oper) : List Nat := (List.range ops.size).filter fun j => !(j == i) && match ops[j]? with
  | some oj => !(oj.after.any (fun e => Region.binds md e && e.on == i) || oi.apart ops oj)
  | none => false
/-- No select in it; for each operation: what must have come up before it, and what may not come up behind it if it is taken first. -/
def rtab (md : Region.Mode) (ops : Array Oper) : Bool × List (List Nat × List Nat) := (Region.noSelect ops, (List.range ops.size).map fun i => match ops[i]? with
  | some o => (needsOf md o, clashOf md ops i o)
  | none => ([], []))
def readyAt (T : List (List Nat × List Nat)) (l : List Bool) (i : Nat) : Bool := !l.getD i true && match T[i]? with
  | some r => r.1.all (fun j => l.getD j false)
  | none => false
def readyT (T : List (List Nat × List Nat)) (l : List Bool) : List Nat := (List.range T.length).filter (readyAt T l)
def freeT (T : List (List Nat × List Nat)) (l : List Bool) (i : Nat) : Bool := match T[i]? with
  | some r => r.2.all (fun j => l.getD j true)
  | none => false
def closedT (T : List (List Nat × List Nat)) (l : List Bool) : Bool := (List.range T.length).all fun j => !l.getD j false || match T[j]? with
  | some r => r.1.all (fun k => l.getD k false)
  | none => true
def reachT (T : List (List Nat × List Nat)) (i : Nat) : Nat → Nat → Bool
  | 0, _ => false
  | fuel + 1, d => match T[d]? with
    | some r => r.1.any fun j => j == i || reachT T i fuel j
    | none => false
def lastT (T : List (List Nat × List Nat)) (l : List Bool) (ds : List Nat) (i : Nat) : Bool := ds.all fun d => l.getD d true || reachT T i T.length d
section
variable {md : Region.Mode} {ops : Array Oper} {T : Bool × List (List Nat × List Nat)} {l l' li lj lk : Array Bool} {ds : List Nat} {i j k : Nat}
theorem gd (l : Array Bool) (j : Nat) (b : Bool) : l.getD j b = l.toList.getD j b := by simp [Array.getD_eq_getD_getElem?, List.getD_eq_getElem?_getD]
theorem needs_all (o : Oper) (p : Nat → Bool) : o.after.all (fun e => !Region.binds md e || p e.on) = (needsOf md o).all p := by
  unfold needsOf
  rw [← Array.all_toList]
  induction o.after.toList with
  | nil => rfl
  | cons e r ih =>
    rw [List.all_cons, ih, List.filter_cons]
    cases h : Region.binds md e <;> simp
theorem needs_any (o : Oper) (p : Nat → Bool) : o.after.any (fun e => Region.binds md e && p e.on) = (needsOf md o).any p := by
  unfold needsOf
  rw [← Array.any_toList]
  induction o.after.toList with
  | nil => rfl
  | cons e r ih =>
    rw [List.any_cons, ih, List.filter_cons]
    cases h : Region.binds md e <;> simp
theorem rtab_length : (rtab md ops).2.length = ops.size := by simp [rtab]
theorem rtab_some {o : Oper} (h : ops[i]? = some o) : (rtab md ops).2[i]? = some (needsOf md o, clashOf md ops i o) := by
  have hi := (Array.getElem?_eq_some_iff.1 h).1
  unfold rtab
  rw [List.getElem?_map, List.getElem?_range hi, Option.map_some, h]
theorem rtab_none (h : ops[i]? = none) : (rtab md ops).2[i]? = none := by
  have hi : ops.size ≤ i := Array.getElem?_eq_none_iff.1 h
  exact List.getElem?_eq_none (by rw [rtab_length]; exact hi)
theorem readyAt_eq : readyAt (rtab md ops).2 l.toList i = (!l.getD i true && ((ops[i]?).map (·.after.all fun e => !Region.binds md e || l.getD e.on false)).getD false) := by
  unfold readyAt
  rw [gd]
  cases h : ops[i]? with
  | none => rw [rtab_none h]; rfl
  | some o =>
    rw [rtab_some h]
    simp only [Option.map_some, Option.getD_some]
    rw [← needs_all]
    simp only [gd]
theorem ready_eq : Region.ready md ops l = readyT (rtab md ops).2 l.toList := by
  unfold Region.ready readyT
  rw [rtab_length]
  refine List.filter_congr (fun i _ => ?_)
  rw [readyAt_eq]
theorem free_eq : Region.free md ops l i = freeT (rtab md ops).2 l.toList i := by
  unfold Region.free freeT
  cases h : ops[i]? with
  | none => rw [rtab_none h]
  | some oi =>
    rw [rtab_some h]
    simp only [clashOf]
    rw [List.all_filter]
    congr 1
    funext j
    rw [gd]
    cases hj : ops[j]? with
    | none => cases (j == i) <;> cases (l.toList.getD j true) <;> simp
    | some oj =>
      cases (j == i) <;> cases (l.toList.getD j true) <;> cases (oj.after.any (fun e => Region.binds md e && e.on == i) || oi.apart ops oj) <;> simp_all
theorem closed_eq : Region.closedB md ops l = closedT (rtab md ops).2 l.toList := by
  unfold Region.closedB closedT
  rw [rtab_length]
  congr 1
  funext j
  rw [gd]
  cases h : ops[j]? with
  | none => rw [rtab_none h]
  | some o =>
    rw [rtab_some h]
    simp only
    rw [← needs_all]
    simp only [gd]
theorem reach_eq : ∀ (fuel d : Nat), Region.reachB md ops i fuel d = reachT (rtab md ops).2 i fuel d
  | 0, _ => rfl
  | fuel + 1, d => by
    unfold Region.reachB reachT
    cases h : ops[d]? with
    | none => rw [rtab_none h]
    | some o =>
      rw [rtab_some h]
      simp only
      rw [← needs_any]
      congr 1
      funext e
      rw [reach_eq fuel]
theorem last_eq : Region.lastB md ops l ds i = lastT (rtab md ops).2 l.toList ds i := by
  unfold Region.lastB lastT
  rw [rtab_length]
  congr 1
  funext d
  rw [gd, reach_eq]
theorem readyAt_mem (h : readyAt T.2 l.toList i = true) (hT : rtab md ops = T) : (Region.ready md ops l).contains i = true := by
  subst hT
  rw [ready_eq]
  unfold readyT
  rw [List.contains_iff_mem, List.mem_filter, List.mem_range]
  refine ⟨?_, h⟩
  unfold readyAt at h
  rw [Bool.and_eq_true] at h
  cases hq : (rtab md ops).2[i]? with
  | none => rw [hq] at h; simp at h
  | some r => exact (List.getElem?_eq_some_iff.1 hq).1
theorem set_of (h : (l.toList.set i true == l'.toList) = true) : (l.setIfInBounds i true == l') = true := by
  rw [beq_iff_eq] at h ⊢
  apply Array.ext'
  rw [Array.toList_setIfInBounds]
  exact h
def anyT (T : Bool × List (List Nat × List Nat)) (l l' : List Bool) (i : Nat) : Bool := T.1 && freeT T.2 l i && readyAt T.2 l i && (l.set i true == l')
/-- pure_'s condition out of the table. -/
theorem any_of (hT : rtab md ops = T) (h : anyT T l.toList l'.toList i = true) : anyB md ops l l' i = true := by
  simp only [anyT, Bool.and_eq_true] at h
  obtain ⟨⟨⟨h1, h2⟩, h3⟩, h4⟩ := h
  have h5 := readyAt_mem h3 hT
  have h6 := set_of h4
  subst hT
  simp only [anyB, Bool.and_eq_true]
  exact ⟨⟨⟨h1, by rw [free_eq]; exact h2⟩, h5⟩, h6⟩
def takeT (T : Bool × List (List Nat × List Nat)) (ds : List Nat) (l l' : List Bool) (i : Nat) : Bool := T.1 && freeT T.2 l i && readyAt T.2 l i && closedT T.2 l && lastT T.2 l ds i && (l.set i true == l')
/-- take_'s. -/
theorem take_of (hT : rtab md ops = T) (h : takeT T ds l.toList l'.toList i = true) : takeB md ops ds l l' i = true := by
  simp only [takeT, Bool.and_eq_true] at h
  obtain ⟨⟨⟨⟨⟨h1, h2⟩, h3⟩, h4⟩, h5⟩, h6⟩ := h
  have h7 := readyAt_mem h3 hT
  have h8 := set_of h6
  subst hT
  simp only [takeB, Bool.and_eq_true]
  exact ⟨⟨⟨⟨⟨h1, by rw [free_eq]; exact h2⟩, h7⟩, by rw [closed_eq]; exact h4⟩, by rw [last_eq]; exact h5⟩, h8⟩
/-- one_'s and last_'s. -/
theorem one_of (hT : rtab md ops = T) (h : (readyT T.2 l.toList == [i] && l.toList.set i true == l'.toList) = true) : readyB md ops l l' i = true := by
  simp only [Bool.and_eq_true] at h
  obtain ⟨h1, h2⟩ := h
  subst hT
  simp only [readyB, Bool.and_eq_true]
  exact ⟨by rw [ready_eq]; exact h1, set_of h2⟩
/-- done_'s. -/
theorem done_of (hT : rtab md ops = T) (h : (readyT T.2 l.toList == []) = true) : (Region.ready md ops l == []) = true := by
  subst hT
  rw [ready_eq]
  exact h
/-- What d waits for, as_ bits: told in the table (B), checked in one pass: each bit is a need of d, or a bit of an earlier need's. -/
def upM (B : List Nat) (d : Nat) : List Nat → Nat
  | [] => 0
  | n :: r => (2 ^ n ||| (if n < d then B.getD n 0 else 0)) ||| upM B d r
def waitsOk (T : List (List Nat × List Nat)) (B : List Nat) : Bool := (List.range T.length).all fun d => match T[d]? with
  | some r => (B.getD d 0 ||| upM B d r.1) == upM B d r.1
  | none => false
theorem upM_bit {B : List Nat} {d i : Nat} : ∀ {ns : List Nat}, (upM B d ns).testBit i = true → ∃ n ∈ ns, n = i ∨ (n < d ∧ (B.getD n 0).testBit i = true)
  | [], h => by simp [upM] at h
  | n :: r, h => by
    unfold upM at h
    rw [Nat.testBit_or, Nat.testBit_or, Bool.or_eq_true, Bool.or_eq_true] at h
    rcases h with (h | h) | h
    · rw [Nat.testBit_two_pow] at h
      exact ⟨n, List.mem_cons_self, .inl (by simpa using h)⟩
    · by_cases hn : n < d
      · rw [if_pos hn] at h
        exact ⟨n, List.mem_cons_self, .inr ⟨hn, h⟩⟩
      · rw [if_neg hn] at h
        simp at h
    · obtain ⟨m, hm, h2⟩ := upM_bit h
      exact ⟨m, List.mem_cons_of_mem _ hm, h2⟩
theorem reach_bit {T : List (List Nat × List Nat)} {B : List Nat} (hB : waitsOk T B = true) : ∀ (fuel d : Nat), d < fuel → d < T.length → (B.getD d 0).testBit i = true → reachT T i fuel d = true
  | 0, d, h, _, _ => by omega
  | fuel + 1, d, h, hd, hb => by
    have h1 := List.all_eq_true.1 hB d (List.mem_range.2 hd)
    cases hr : T[d]? with
    | none => rw [hr] at h1; simp at h1
    | some r =>
      rw [hr] at h1
      simp only [beq_iff_eq] at h1
      have h2 : (upM B d r.1).testBit i = true := by rw [← h1, Nat.testBit_or, hb, Bool.true_or]
      obtain ⟨n, hn, h3⟩ := upM_bit h2
      unfold reachT
      rw [hr]
      simp only
      rw [List.any_eq_true]
      refine ⟨n, hn, ?_⟩
      rcases h3 with rfl | ⟨h4, h5⟩
      · simp
      · rw [reach_bit hB fuel n (by omega) (by omega) h5, Bool.or_true]
def lastW (T : List (List Nat × List Nat)) (B : List Nat) (l : List Bool) (ds : List Nat) (i : Nat) : Bool := ds.all fun d => l.getD d true || (decide (d < T.length) && (B.getD d 0).testBit i)
def takeW (T : Bool × List (List Nat × List Nat)) (B : List Nat) (ds : List Nat) (l l' : List Bool) (i : Nat) : Bool := T.1 && freeT T.2 l i && readyAt T.2 l i && closedT T.2 l && lastW T.2 B l ds i && (l.set i true == l')
/-- take_'s, by the bits. -/
theorem take_ofW {B : List Nat} (hT : rtab md ops = T) (hB : waitsOk T.2 B = true) (h : takeW T B ds l.toList l'.toList i = true) : takeB md ops ds l l' i = true := by
  refine take_of hT ?_
  simp only [takeW, takeT, Bool.and_eq_true] at h ⊢
  obtain ⟨⟨⟨⟨⟨h1, h2⟩, h3⟩, h4⟩, h5⟩, h6⟩ := h
  refine ⟨⟨⟨⟨⟨h1, h2⟩, h3⟩, h4⟩, ?_⟩, h6⟩
  unfold lastW at h5
  unfold lastT
  rw [List.all_eq_true] at h5 ⊢
  intro d hd
  have h7 := h5 d hd
  rw [Bool.or_eq_true, Bool.and_eq_true, decide_eq_true_eq] at h7
  rcases h7 with h7 | ⟨h8, h9⟩
  · rw [h7, Bool.true_or]
  · rw [reach_bit hB _ d h8 h8 h9, Bool.or_true]
theorem with_tabW {P : Program} {Q : Exit → Act → World → Prop} {S : World → Prop} {n : Nat} {a : Act} {w : World} {B : List Nat} (hT : rtab md ops = T) (hB : waitsOk T.2 B = true) (h : Aside0 (rtab md ops = T) → Aside0 (waitsOk T.2 B = true) → wpAnyLast P md ops Q S ds n l a w) : wpAnyLast P md ops Q S ds n l a w := h ⟨hT⟩ ⟨hB⟩
end
/-- The operations of a region, by its number. -/
def opsIn : Code → Nat → Option (Array Oper)
  | .region id ops _, k => if id == k then some ops else none
  | .seq a b, k => match opsIn a k with
    | some o => some o
    | none => opsIn b k
  | .cond _ a b, k => match opsIn a k with
    | some o => some o
    | none => opsIn b k
  | .block _ c, k => opsIn c k
  | .loop c, k => opsIn c k
  | .scope c, k => opsIn c k
  | .rangeFunc _ _ a b, k => match opsIn a k with
    | some o => some o
    | none => opsIn b k
  | _, _ => none
def opsOf (f : Func) (k : Nat) : Array Oper := ((f.body.bind fun c => opsIn c k)).getD #[]
end Go.Proofs.YtaeenefdbahfoaaDoorW.PrintLast
namespace Go.Proofs.YtaeenefdbahfoaaDoorW.PrintWords
set_option linter.unusedSimpArgs false
set_option linter.unusedVariables false
open Go.RowKit
section
variable {P : Program} {d : Nat} {xs ys : Array Value} {f : Field} {fs : List Field} {a b : Value} {r s : Bool} {w : World}
/-- The last field that counts. -/
theorem eqf_last (hn : (f.name == "_") = false) (ha : (part f.type xs f.offset).run P w = .ok a w) (hb : (part f.type ys f.offset).run P w = .ok b w) (he : (Op.equalIn d f.type a b).run P w = .ok r w) : (Op.eqFields d xs ys [f]).run P w = .ok r w := by
  have hn' : f.name ≠ "_" := by simpa using hn
  simp only [Op.eqFields, if_pos hn', Sem.run_bind, ha, hb, he, Result.andThen_ok]
  cases r <;> simp
theorem eqf_cons (hn : (f.name == "_") = false) (ha : (part f.type xs f.offset).run P w = .ok a w) (hb : (part f.type ys f.offset).run P w = .ok b w) (he : (Op.equalIn d f.type a b).run P w = .ok r w) (hr : (Op.eqFields d xs ys fs).run P w = .ok s w) : (Op.eqFields d xs ys (f :: fs)).run P w = .ok (r && s) w := by
  have hn' : f.name ≠ "_" := by simpa using hn
  rw [Op.eqFields]
  simp only [if_pos hn', Sem.run_bind, ha, hb, he, Result.andThen_ok]
  cases r
  · simp
  · simpa using hr
theorem eqA_of {t : TypeId} {fs : Array Field} (hu : P.underlying t = some (.struct fs)) (hp : P.stoodInHeld t = false) (h : (Op.eqFields d xs ys fs.toList).run P w = .ok r w) : (Op.equalIn (d + 1) t (.agg xs) (.agg ys)).run P w = .ok r w := by
  have hf : P.fieldsOf t = fs := by simp [Program.fieldsOf, hu]
  rw [run_equalIn_struct (P := P) w d t xs ys (by rw [hf]; exact hu) hp, hf]
  exact h
end
end Go.Proofs.YtaeenefdbahfoaaDoorW.PrintWords
namespace Go.Proofs.YtaeenefdbahfoaaDoorW.PrintWords
set_option linter.unusedSimpArgs false
set_option linter.unusedVariables false
/-- One cell an element. -/
theorem Reps.one {α : Type} {R : α → List Value → Prop} {ps : List α} {cs : List Value} {p : α} {v : Value} (hp : R p [v]) (h : Reps R 1 ps cs) : Reps R 1 (p :: ps) (v :: cs) := by
  refine ⟨by simp [h.1], fun j q hq => ?_⟩
  cases j with
  | zero =>
    simp only [List.getElem?_cons_zero, Option.some.injEq] at hq
    subst hq
    simpa using hp
  | succ j =>
    simp only [List.getElem?_cons_succ] at hq
    have h1 := h.2 j q hq
    simpa [Nat.mul_one] using h1
/-- More cells an element: told apart by the cells' list. -/
theorem Reps.front {α : Type} {R : α → List Value → Prop} {size : Nat} {ps : List α} {cs c all : List Value} {p : α} (hp : R p c) (hc : c.length = size) (h : Reps R size ps cs) (ha : c ++ cs = all) : Reps R size (p :: ps) all := by
  subst ha
  refine ⟨by rw [List.length_append, hc, h.1, List.length_cons, Nat.succ_mul, Nat.add_comm], fun j q hq => ?_⟩
  cases j with
  | zero =>
    simp only [List.getElem?_cons_zero, Option.some.injEq] at hq
    subst hq
    rw [Nat.zero_mul, List.drop_zero, List.take_append_of_le_length (by omega), List.take_of_length_le (by omega)]
    exact hp
  | succ j =>
    simp only [List.getElem?_cons_succ] at hq
    have h1 := h.2 j q hq
    rw [Nat.succ_mul, List.drop_append, List.drop_of_length_le (by rw [hc]; exact Nat.le_add_left _ _), List.nil_append, hc, Nat.add_sub_cancel]
    exact h1
theorem Reps.c2 {α : Type} {R : α → List Value → Prop} {ps : List α} {cs : List Value} {p : α} {va vb : Value} (hp : R p [va, vb]) (h : Reps R 2 ps cs) : Reps R 2 (p :: ps) (va :: vb :: cs) := Reps.front hp rfl h rfl
theorem Reps.c3 {α : Type} {R : α → List Value → Prop} {ps : List α} {cs : List Value} {p : α} {va vb vc : Value} (hp : R p [va, vb, vc]) (h : Reps R 3 ps cs) : Reps R 3 (p :: ps) (va :: vb :: vc :: cs) := Reps.front hp rfl h rfl
theorem Reps.c4 {α : Type} {R : α → List Value → Prop} {ps : List α} {cs : List Value} {p : α} {va vb vc vd : Value} (hp : R p [va, vb, vc, vd]) (h : Reps R 4 ps cs) : Reps R 4 (p :: ps) (va :: vb :: vc :: vd :: cs) := Reps.front hp rfl h rfl
theorem Reps.c5 {α : Type} {R : α → List Value → Prop} {ps : List α} {cs : List Value} {p : α} {va vb vc vd ve : Value} (hp : R p [va, vb, vc, vd, ve]) (h : Reps R 5 ps cs) : Reps R 5 (p :: ps) (va :: vb :: vc :: vd :: ve :: cs) := Reps.front hp rfl h rfl
theorem Reps.c6 {α : Type} {R : α → List Value → Prop} {ps : List α} {cs : List Value} {p : α} {va vb vc vd ve vf : Value} (hp : R p [va, vb, vc, vd, ve, vf]) (h : Reps R 6 ps cs) : Reps R 6 (p :: ps) (va :: vb :: vc :: vd :: ve :: vf :: cs) := Reps.front hp rfl h rfl
theorem Reps.c7 {α : Type} {R : α → List Value → Prop} {ps : List α} {cs : List Value} {p : α} {va vb vc vd ve vf vg : Value} (hp : R p [va, vb, vc, vd, ve, vf, vg]) (h : Reps R 7 ps cs) : Reps R 7 (p :: ps) (va :: vb :: vc :: vd :: ve :: vf :: vg :: cs) := Reps.front hp rfl h rfl
theorem Reps.c8 {α : Type} {R : α → List Value → Prop} {ps : List α} {cs : List Value} {p : α} {va vb vc vd ve vf vg vh : Value} (hp : R p [va, vb, vc, vd, ve, vf, vg, vh]) (h : Reps R 8 ps cs) : Reps R 8 (p :: ps) (va :: vb :: vc :: vd :: ve :: vf :: vg :: vh :: cs) := Reps.front hp rfl h rfl
theorem Reps.c9 {α : Type} {R : α → List Value → Prop} {ps : List α} {cs : List Value} {p : α} {va vb vc vd ve vf vg vh vi : Value} (hp : R p [va, vb, vc, vd, ve, vf, vg, vh, vi]) (h : Reps R 9 ps cs) : Reps R 9 (p :: ps) (va :: vb :: vc :: vd :: ve :: vf :: vg :: vh :: vi :: cs) := Reps.front hp rfl h rfl
theorem Reps.c10 {α : Type} {R : α → List Value → Prop} {ps : List α} {cs : List Value} {p : α} {va vb vc vd ve vf vg vh vi vj : Value} (hp : R p [va, vb, vc, vd, ve, vf, vg, vh, vi, vj]) (h : Reps R 10 ps cs) : Reps R 10 (p :: ps) (va :: vb :: vc :: vd :: ve :: vf :: vg :: vh :: vi :: vj :: cs) := Reps.front hp rfl h rfl
end Go.Proofs.YtaeenefdbahfoaaDoorW.PrintWords
namespace Go.Proofs.YtaeenefdbahfoaaDoorW.PrintLast
set_option linter.unusedSimpArgs false
set_option linter.unusedVariables false
section
variable {P : Program} {ops : Array Oper} {Q : Exit → Act → World → Prop} {md : Region.Mode} {T : Bool × List (List Nat × List Nat)} {B : List Nat} {O : List Nat} {b : Nat → Bool} {i j n : Nat}
end
end Go.Proofs.YtaeenefdbahfoaaDoorW.PrintLast
namespace Go.Proofs.YtaeenefdbahfoaaDoor.H
open Go.RowKit Go.Proofs.YtaeenefdbahfoaaDoorW.PrintWords Go.Proofs.YtaeenefdbahfoaaDoorW.PrintLast Go.Proofs.YtaeenefdbahfoaaDoorW.PrintMore
attribute [local go_sem] max2_int min2_int max_two min_two max_three min_three max_four min_four   -- for this text's walks alone
set_option linter.unusedVariables false
set_option linter.unusedSimpArgs false
def errW : Option Int → Value
  | none => .nilIface
  | some c => .iface 87 (.int .i64 c)
theorem errW_none : errW none = .nilIface := rfl
theorem errW_some (c : Int) : errW (some c) = .iface 87 (.int .i64 c) := rfl
theorem info60 : (Tryd.prog.info? 60).map (fun i => (i.zero, i.size, i.bytes)) = some (some (.agg #[(.int .i64 0), (.int .i64 0), (.int .i64 0)]), 3, 24) := by kernel_rfl
theorem info65 : (Tryd.prog.info? 65).map (fun i => (i.zero, i.size, i.bytes)) = some (some (.agg #[(.int .i64 0), (.int .i64 0), (.int .i64 0)]), 3, 24) := by kernel_rfl
theorem info111 : (Tryd.prog.info? 111).map (fun i => (i.zero, i.size, i.bytes)) = some (some (.slice none 0 0), 1, 24) := by kernel_rfl
structure S23 where
  f0 : Int
  f1 : Int
def z23 : S23 := ⟨(0 : Int), (0 : Int)⟩
structure S29 where
  f0 : Int
  f1 : S23
  f2 : S23
structure S63 where
  f0 : Int
  f1 : Int
def z63 : S63 := ⟨(0 : Int), (0 : Int)⟩
def k63 : Kd S63 := Kd.iso (Kd.pair (Kd.int .i64) (Kd.int .i64)) (fun x : S63 => (x.f0, x.f1))
theorem k63_open {w : World} {x : S63} {cs : List Value} (h : k63.K w x cs) : cs = [.int .i64 x.f0, .int .i64 x.f1] := by
  obtain ⟨_, _, rfl, rfl, rfl⟩ := h
  exact rfl
theorem k63_openM {w : World} {base : Nat} {ok : Nat → Prop} {x : S63} {cs : List Value} (h : k63.M w base ok x cs) : cs = [.int .i64 x.f0, .int .i64 x.f1] := by
  obtain ⟨_, _, rfl, rfl, rfl⟩ := h
  exact rfl
theorem k63_mkM (w : World) (base : Nat) (ok : Nat → Prop) (x : S63)  : k63.M w base ok x [.int .i64 x.f0, .int .i64 x.f1] := ⟨[.int .i64 x.f0], [.int .i64 x.f1], rfl, rfl, rfl⟩
def rd_T63 (xs : List S63) (i : Int) : S63 := xs.getD i.toNat z63
theorem at_T63 {w : World} {A : Option Addr} {n : Nat} {xs : List S63} (h : Kd.C k63 w A n xs) (i : Int) (h0 : 0 ≤ i) (h1 : i < n) : ∃ ad , A = some ad ∧ w.cell? (ad.add (i.toNat * 2)) = some (.int .i64 (rd_T63 xs i).f0) ∧ w.cell? ⟨(ad.add (i.toNat * 2)).block, (ad.add (i.toNat * 2)).off + 1, none⟩ = some (.int .i64 (rd_T63 xs i).f1) := by
  obtain ⟨ad, c, e, _, hK, hc0⟩ := Kd.C_get h z63 i h0 h1
  have hc : ∀ j u, c[j]? = some u → w.cell? (ad.add (i.toNat * 2 + j)) = some u := hc0
  obtain rfl := k63_open hK
  exact ⟨ad, e, hc 0 _ rfl, by rw [← add_field _ _ 1 (by omega)]; exact hc 1 _ rfl⟩
structure S69 where
  f0 : S63
  f1 : S63
  f2 : S63
  f3 : S63
  f4 : S63
  f5 : S63
structure S65 where
  f0 : S63
  f1 : Int
def z65 : S65 := ⟨z63, (0 : Int)⟩
def k65 : Kd S65 := Kd.iso (Kd.pair k63 (Kd.int .i64)) (fun x : S65 => (x.f0, x.f1))
theorem k65_open {w : World} {x : S65} {cs : List Value} (h : k65.K w x cs) : cs = [.int .i64 x.f0.f0, .int .i64 x.f0.f1, .int .i64 x.f1] := by
  obtain ⟨_, _, rfl, s0, rfl⟩ := h
  obtain rfl := k63_open s0
  exact rfl
theorem k65_openM {w : World} {base : Nat} {ok : Nat → Prop} {x : S65} {cs : List Value} (h : k65.M w base ok x cs) : cs = [.int .i64 x.f0.f0, .int .i64 x.f0.f1, .int .i64 x.f1] := by
  obtain ⟨_, _, rfl, s0, rfl⟩ := h
  obtain rfl := k63_openM s0
  exact rfl
theorem k65_mkM (w : World) (base : Nat) (ok : Nat → Prop) (x : S65)  : k65.M w base ok x [.int .i64 x.f0.f0, .int .i64 x.f0.f1, .int .i64 x.f1] := ⟨[.int .i64 x.f0.f0, .int .i64 x.f0.f1], [.int .i64 x.f1], rfl, (k63_mkM w base ok x.f0 ), rfl⟩
def rd_T65 (xs : List S65) (i : Int) : S65 := xs.getD i.toNat z65
theorem at_T65 {w : World} {A : Option Addr} {n : Nat} {xs : List S65} (h : Kd.C k65 w A n xs) (i : Int) (h0 : 0 ≤ i) (h1 : i < n) : ∃ ad , A = some ad ∧ w.cell? (ad.add (i.toNat * 3)) = some (.int .i64 (rd_T65 xs i).f0.f0) ∧ w.cell? ⟨(ad.add (i.toNat * 3)).block, (ad.add (i.toNat * 3)).off + 1, none⟩ = some (.int .i64 (rd_T65 xs i).f0.f1) ∧ w.cell? ⟨(ad.add (i.toNat * 3)).block, (ad.add (i.toNat * 3)).off + 2, none⟩ = some (.int .i64 (rd_T65 xs i).f1) := by
  obtain ⟨ad, c, e, _, hK, hc0⟩ := Kd.C_get h z65 i h0 h1
  have hc : ∀ j u, c[j]? = some u → w.cell? (ad.add (i.toNat * 3 + j)) = some u := hc0
  obtain rfl := k65_open hK
  exact ⟨ad, e, hc 0 _ rfl, by rw [← add_field _ _ 1 (by omega)]; exact hc 1 _ rfl, by rw [← add_field _ _ 2 (by omega)]; exact hc 2 _ rfl⟩
structure S25 where
  f0 : Int
  f1 : S23
  f2 : S23
def z25 : S25 := ⟨(0 : Int), z23, z23⟩
def rd_L10 (xs : List (List Int)) (i : Int) : (List Int) := xs.getD i.toNat ([] : List Int)
theorem at_L10 {w : World} {A : Option Addr} {n : Nat} {xs : List (List Int)} (h : Kd.C (Kd.slice 2 (Kd.int .i64)) w A n xs) (i : Int) (h0 : 0 ≤ i) (h1 : i < n) : ∃ ad A0 c0, A = some ad ∧ w.cell? (ad.add i.toNat) = some (.slice A0 (rd_L10 xs i).length c0) ∧ (rd_L10 xs i).length ≤ c0 ∧ (Kd.int .i64).C w A0 (rd_L10 xs i).length (rd_L10 xs i) := by
  obtain ⟨ad, c, e, _, hK, hc0⟩ := Kd.C_get h ([] : List Int) i h0 h1
  have hc : ∀ j u, c[j]? = some u → w.cell? (ad.add (i.toNat * 1 + j)) = some u := hc0
  obtain ⟨A0, c0, rfl, l0, g0⟩ := hK
  exact ⟨ad, A0, c0, e, by have hq := hc 0 _ rfl; rwa [Nat.mul_one, Nat.add_zero] at hq, l0, g0⟩
structure S60 where
  f0 : Int
  f1 : Int
  f2 : Int
def z60 : S60 := ⟨(0 : Int), (0 : Int), (0 : Int)⟩
def k60 : Kd S60 := Kd.iso (Kd.pair (Kd.int .i64) (Kd.pair (Kd.int .i64) (Kd.int .i64))) (fun x : S60 => (x.f0, x.f1, x.f2))
theorem k60_open {w : World} {x : S60} {cs : List Value} (h : k60.K w x cs) : cs = [.int .i64 x.f0, .int .i64 x.f1, .int .i64 x.f2] := by
  obtain ⟨_, _, rfl, rfl, ⟨_, _, rfl, rfl, rfl⟩⟩ := h
  exact rfl
theorem k60_mk (w : World) (x : S60)  : k60.K w x [.int .i64 x.f0, .int .i64 x.f1, .int .i64 x.f2] := ⟨[.int .i64 x.f0], [.int .i64 x.f1, .int .i64 x.f2], rfl, rfl, ⟨[.int .i64 x.f1], [.int .i64 x.f2], rfl, rfl, rfl⟩⟩
theorem k60_mkM (w : World) (base : Nat) (ok : Nat → Prop) (x : S60)  : k60.M w base ok x [.int .i64 x.f0, .int .i64 x.f1, .int .i64 x.f2] := ⟨[.int .i64 x.f0], [.int .i64 x.f1, .int .i64 x.f2], rfl, rfl, ⟨[.int .i64 x.f1], [.int .i64 x.f2], rfl, rfl, rfl⟩⟩
def rd_T60 (xs : List S60) (i : Int) : S60 := xs.getD i.toNat z60
theorem at_T60 {w : World} {A : Option Addr} {n : Nat} {xs : List S60} (h : Kd.C k60 w A n xs) (i : Int) (h0 : 0 ≤ i) (h1 : i < n) : ∃ ad , A = some ad ∧ w.cell? (ad.add (i.toNat * 3)) = some (.int .i64 (rd_T60 xs i).f0) ∧ w.cell? ⟨(ad.add (i.toNat * 3)).block, (ad.add (i.toNat * 3)).off + 1, none⟩ = some (.int .i64 (rd_T60 xs i).f1) ∧ w.cell? ⟨(ad.add (i.toNat * 3)).block, (ad.add (i.toNat * 3)).off + 2, none⟩ = some (.int .i64 (rd_T60 xs i).f2) := by
  obtain ⟨ad, c, e, _, hK, hc0⟩ := Kd.C_get h z60 i h0 h1
  have hc : ∀ j u, c[j]? = some u → w.cell? (ad.add (i.toNat * 3 + j)) = some u := hc0
  obtain rfl := k60_open hK
  exact ⟨ad, e, hc 0 _ rfl, by rw [← add_field _ _ 1 (by omega)]; exact hc 1 _ rfl, by rw [← add_field _ _ 2 (by omega)]; exact hc 2 _ rfl⟩
structure S55 where
  f0 : Int
  f1 : (List Int)
  f2 : (List Int)
def z55 : S55 := ⟨(0 : Int), ([] : List Int), ([] : List Int)⟩
structure S104 where
  f0 : Int
  f1 : Int
theorem bA_ {w : World} {g : Nat} {o : Obj} (h : w.heap[g]? = some o) (o' : Obj) : (w.alloc o').heap[g]? = some o := blk_alloc h o'
theorem bD_ {w : World} {g : Nat} {o : Obj} (h : w.heap[g]? = some o) : w.drew.heap[g]? = some o := h
theorem bN_ {w : World} {g : Nat} {o : Obj} (h : w.heap[g]? = some o) (n : Nat) : (w.drewN n).heap[g]? = some o := h
theorem ba_ {w W : World} (h : Below w.heap.size w W) (o : Obj) : Below w.heap.size w (W.alloc o) := below_alloc h o
theorem bn_ {B : Nat} {w W : World} (h : Below B w W) (n : Nat) : Below B w (W.drewN n) := pw_below_drewN h n
theorem bd_ {B : Nat} {w W : World} (h : Below B w W) : Below B w W.drew := below_drew1 h
end Go.Proofs.YtaeenefdbahfoaaDoor.H
namespace Go.Proofs.YtaeenefdbahfoaaDoor
set_option linter.unusedSimpArgs false
set_option linter.unusedVariables false
open Go.RowKit Go.Proofs.YtaeenefdbahfoaaDoorW.PrintWords Go.Proofs.YtaeenefdbahfoaaDoorW.PrintLast Go.Proofs.YtaeenefdbahfoaaDoorW.PrintMore
open H
open Go.ChangeShapes Go.WideShapes Go.ChangeAt Go.Deep
section
variable {T : Type} {enc : TypeId × Value → T} {P : Program} {w : World} {base : Nat} {spare : Nat → Bool} {held : Bool}
end
end Go.Proofs.YtaeenefdbahfoaaDoor
namespace Go.Proofs.YtaeenefdbahfoaaDoor
set_option linter.unusedSimpArgs false
set_option linter.unusedVariables false
open Go.RowKit Go.Proofs.YtaeenefdbahfoaaDoorW.PrintWords Go.Proofs.YtaeenefdbahfoaaDoorW.PrintLast Go.Proofs.YtaeenefdbahfoaaDoorW.PrintMore
open H
open Go.ChangeShapes Go.WideShapes Go.ChangeAt Go.Deep
section
variable {T : Type} {enc : TypeId × Value → T} {P : Program} {w : World} {base : Nat} {spare : Nat → Bool} {held : Bool}
theorem open_rows0 {α : Type} {d : Kd α} {t e : TypeId} {a : Option Addr} {len cap : Nat} {x : DataW T} {p : List MemPlace}
    (ht : P.underlying t = some (.slice e)) (hc : P.cellsOf e = d.sz)
    (hel : ∀ (fuel : Nat) (cs : List Value) (y : DataW T × List MemPlace), DataW.trod enc P w base spare held fuel e cs = some y → ∃ z, d.K w z cs)
    (h : DataW.Trod enc P w base spare held t (.slice a len cap) x p) : ∃ l : List α, l.length = len ∧ len ≤ cap ∧ Kd.C d w a len l := by
  obtain ⟨fuel, hf⟩ := h
  rcases open_slice ht hf with ⟨hcs, hx⟩ | ⟨a', len', cap', m, n, D, Pl, hcs, _, hl, hm, hmm, hx, hi⟩
  · simp [Value.cells] at hcs
    obtain ⟨rfl, rfl, rfl⟩ := hcs
    exact ⟨[], rfl, Nat.le_refl _, ⟨rfl, by omega, fun h => absurd h (by omega)⟩⟩
  · simp [Value.cells] at hcs
    obtain ⟨rfl, rfl, rfl⟩ := hcs
    have hlm : len ≤ m := by rw [hmm]; split <;> omega
    have key : ∀ i, i < m → ∃ z cs', d.K w z cs' ∧ cs'.length = d.sz ∧ ∀ u v, cs'[u]? = some v → w.cell? (a'.add (i * d.sz + u)) = some v := by
      intro i him
      obtain ⟨cs', hcl, htr⟩ := hi i him
      rw [hc] at hcl
      obtain ⟨z, hz⟩ := hel _ _ _ htr
      obtain ⟨_, hln, hat⟩ := World.cells?_some hcl
      refine ⟨z, cs', hz, d.K_len hz, fun u v huv => ?_⟩
      have hlt : u < cs'.length := (List.getElem?_eq_some_iff.1 huv).1
      have := hat u (by omega)
      rw [huv] at this
      rw [← Go.Deep.add_add]
      exact this
    have hmx : cap ≤ 9223372036854775807 := by
      have : maxLen ≤ 9223372036854775807 := by decide
      omega
    refine ⟨List.ofFn fun i : Fin len => (key i.1 (by have := i.2; omega)).choose, by simp, hl, ⟨by simp, by omega, fun h0 => ⟨a', rfl, fun j p hp => ?_⟩⟩⟩
    rw [List.getElem?_ofFn] at hp
    split at hp
    · obtain ⟨cs', hK, hlen, hat⟩ := (key j (by omega)).choose_spec
      rw [Option.some.inj hp] at hK
      exact ⟨cs', hlen, hK, fun u v huv => hat u v huv⟩
    · cases hp
end
section
variable {H : Type} {enc : TypeId × Value → H} {w : World} {base : Nat} {spare : Nat → Bool} {held : Bool}
end
end Go.Proofs.YtaeenefdbahfoaaDoor
namespace Go.Proofs.YtaeenefdbahfoaaDoor
set_option linter.unusedSimpArgs false
set_option linter.unusedVariables false
open Go.RowKit Go.Proofs.YtaeenefdbahfoaaDoorW.PrintWords Go.Proofs.YtaeenefdbahfoaaDoorW.PrintLast Go.Proofs.YtaeenefdbahfoaaDoorW.PrintMore
open H
open Go.ChangeShapes Go.WideShapes Go.ChangeAt Go.Deep
set_option maxRecDepth 100000 in
theorem el_rc {T : Type} {enc : TypeId × Value → T} {w : World} {base : Nat} {spare : Nat → Bool} {held : Bool} (fuel : Nat) (cs : List Value) (y : DataW T × List MemPlace)
    (h : DataW.trod enc Tryd.prog w base spare held fuel 60 cs = some y) : ∃ z, k60.K w z cs := by
  have hc3 : Tryd.prog.cellsOf 60 = 3 := by kernel_rfl
  have hc1 : Tryd.prog.cellsOf 2 = 1 := by kernel_rfl
  have hc0 : Tryd.prog.cellsOf 3 = 1 := by kernel_rfl
  obtain ⟨xs, n, _, _, hcl, hl, hf⟩ := DataW.trod_struct Tryd.underlying60 h
  rw [hc3] at hcl
  obtain ⟨c0, c1, c2, rfl⟩ : ∃ c0 c1 c2, cs = [c0, c1, c2] := by
    match cs, hcl with
    | [a, b, c], _ => exact ⟨a, b, c, rfl⟩
  obtain ⟨y0, y1, y2, rfl⟩ : ∃ y0 y1 y2, xs = [y0, y1, y2] := by
    match xs, hl with
    | [a, b, c], _ => exact ⟨a, b, c, rfl⟩
  have f0 := hf 0 _ rfl
  have f1 := hf 1 _ rfl
  have f2 := hf 2 _ rfl
  simp [hc1, hc0] at f0 f1 f2
  obtain ⟨a, e0, _, _⟩ := DataW.trod_int Tryd.underlying2 f0
  obtain ⟨b, e1, _, _⟩ := DataW.trod_int Tryd.underlying2 f1
  obtain ⟨c, e2, _, _⟩ := DataW.trod_int Tryd.underlying3 f2
  simp at e0 e1 e2
  subst e0
  subst e1
  subst e2
  exact ⟨⟨a, b, c⟩, k60_mk w ⟨a, b, c⟩⟩
section
variable {H : Type} {enc : TypeId × Value → H} {w : World} {base : Nat} {spare : Nat → Bool} {held : Bool}
end
end Go.Proofs.YtaeenefdbahfoaaDoor
namespace Go.Proofs.YtaeenefdbahfoaaDoor
set_option linter.unusedSimpArgs false
set_option linter.unusedVariables false
open Go.ChangeMaps Go.MapKept Go.WideShapes
open Go.Maps (Keyed)
/-- block b of w is a map of these keys and values, in the order in which they came -/
def MapAt (P : Program) (k : TypeId) (w : World) (b : Nat) (l : List (Value × Value)) : Prop :=
  ∃ es clock, w.heap[b]? = some (.map es clock) ∧ Stamped es clock ∧ (∀ x ∈ es.toList, ∃ kl, keyOf P k x.key = some kl) ∧ es.toList.map (fun e => (e.key, e.val)) = l
section
variable {P : Program} {k e t : TypeId} {w : World} {b : Nat} {l : List (Value × Value)}
theorem nodup_idx {α : Type} {l : List α} (h : l.Nodup) {i j : Nat} {x : α} (hi : l[i]? = some x) (hj : l[j]? = some x) : i = j :=
  (List.getElem?_inj (List.getElem?_eq_some_iff.1 hi).1 h).1 (hi.trans hj.symm)
theorem MapAt_made (P : Program) (k : TypeId) (w : World) : MapAt P k (w.alloc (.map #[] 0)) w.heap.size [] :=
  ⟨#[], 0, (MapKept.heap_alloc w (.map #[] 0)).1, ⟨by simp, by simp, by simp⟩, by simp, rfl⟩
theorem MapAt.of_heap {w' : World} (h : MapAt P k w b l) (hh : w'.heap[b]? = w.heap[b]?) : MapAt P k w' b l := by
  obtain ⟨es, c, hb, r⟩ := h
  exact ⟨es, c, hh.trans hb, r⟩
theorem MapAt.lt (h : MapAt P k w b l) : b < w.heap.size := by
  obtain ⟨es, c, hb, _⟩ := h
  exact (Array.getElem?_eq_some_iff.1 hb).1
theorem MapAt.below {w' : World} (h : MapAt P k w b l) (hb : RowKit.Below w.heap.size w w') : MapAt P k w' b l :=
  h.of_heap (hb.block b h.lt)
theorem MapAt.find (h : MapAt P k w b l) (K : Keyed P k) {key : Value} {kl : Lit} (hkey : keyOf P k key = some kl) :
    ∃ es clock, w.heap[b]? = some (.map es clock) ∧ Stamped es clock ∧ (∀ x ∈ es.toList, ∃ kl, keyOf P k x.key = some kl) ∧ es.toList.map (fun e => (e.key, e.val)) = l ∧
      (((∀ W, (Instr.findKey k key es.toList).run P W = .ok none W) ∧ ∀ p ∈ l, p.1 ≠ key) ∨ ∃ j e0, (∀ W, (Instr.findKey k key es.toList).run P W = .ok (some (j, e0.val)) W) ∧ es.toList[j]? = some e0 ∧ e0.key = key ∧ l[j]? = some (key, e0.val)) := by
  obtain ⟨es, clock, hb, hs, hk, hl⟩ := h
  refine ⟨es, clock, hb, hs, hk, hl, ?_⟩
  have hnd : ∀ (i j : Nat) (x y : MapEntry), es.toList[i]? = some x → es.toList[j]? = some y → x.key = y.key → i = j := by
    intro i j x y hi hj hxy
    exact nodup_idx (x := y.key) hs.2.2 (by rw [List.getElem?_map, hi]; exact congrArg some hxy) (by rw [List.getElem?_map, hj]; rfl)
  by_cases hx : ∃ x ∈ es.toList, x.key = key
  · obtain ⟨x, hx, hxk⟩ := hx
    obtain ⟨i, hi⟩ := List.mem_iff_getElem?.1 hx
    refine Or.inr ⟨i, x, fun W => ?_, hi, hxk, by rw [← hl, List.getElem?_map, hi]; simp [hxk]⟩
    rcases K.find W hkey es.toList hk with ⟨_, h2⟩ | ⟨j, e0, h1, h2, h3⟩
    · exact absurd hxk (h2 x hx)
    · have hij := hnd i j x e0 hi h2 (hxk.trans h3.symm)
      subst hij
      rw [hi] at h2
      cases h2
      exact h1
  · refine Or.inl ⟨fun W => ?_, fun p hp hpk => ?_⟩
    · rcases K.find W hkey es.toList hk with ⟨h1, _⟩ | ⟨j, e0, h1, h2, h3⟩
      · exact h1
      · exact absurd ⟨e0, List.mem_of_getElem? h2, h3⟩ hx
    · rw [← hl] at hp
      obtain ⟨x, hx1, rfl⟩ := List.mem_map.1 hp
      exact hx ⟨x, hx1, hpk⟩
theorem MapAt.look_none (c : Bool) (h : MapAt P k w b l) (K : Keyed P k) (ht : P.underlying t = some (.map k e)) {z : Value} (hz : ∀ W, (zeroValue e).run P W = .ok z W) {key : Value} {kl : Lit} (hkey : keyOf P k key = some kl) (hn : ∀ p ∈ l, p.1 ≠ key) :
    (Instr.lookup t (.map (some b)) key c).run P w = .ok (if c then .tuple #[z, .bool false] else z) w := by
  obtain ⟨es, clock, hb, hs, hk, hl, ⟨h1, h2⟩ | ⟨j, e0, h1, h2, h3, h4⟩⟩ := h.find K hkey
  · simp [Instr.lookup, run_underlying ht, MapKept.run_getObj_map hb, K.check w _ hkey, h1, hz, Result.andThen]
  · exact absurd rfl (hn _ (List.mem_of_getElem? h4))
theorem MapAt.look_some (c : Bool) (h : MapAt P k w b l) (K : Keyed P k) (ht : P.underlying t = some (.map k e)) {key v : Value} {kl : Lit} (hkey : keyOf P k key = some kl) {j : Nat} (hj : l[j]? = some (key, v)) :
    (Instr.lookup t (.map (some b)) key c).run P w = .ok (if c then .tuple #[v, .bool true] else v) w := by
  obtain ⟨es, clock, hb, hs, hk, hl, ⟨h1, h2⟩ | ⟨i, e0, h1, h2, h3, h4⟩⟩ := h.find K hkey
  · exact absurd rfl (h2 _ (List.mem_of_getElem? hj))
  · have hij : i = j := by
      have hk1 : es.toList.map (·.key) = l.map (·.1) := by rw [← hl, List.map_map]; rfl
      exact nodup_idx (x := key) (hk1 ▸ hs.2.2) (by rw [List.getElem?_map, h4]; rfl) (by rw [List.getElem?_map, hj]; rfl)
    subst hij
    rw [hj] at h4
    cases h4
    simp [Instr.lookup, run_underlying ht, MapKept.run_getObj_map hb, K.check w _ hkey, h1, Result.andThen]
theorem MapAt.len (h : MapAt P k w b l) (ht : P.underlying t = some (.map k e)) (ty : TypeId) : (Builtin.len_ #[t] ty #[.map (some b)]).run P w = .ok (.int .i64 l.length) w := by
  obtain ⟨es, clock, hb, _, _, hl⟩ := h
  have : l.length = es.size := by rw [← hl]; simp
  rw [this]
  simp [Builtin.len_, run_underlying ht, MapKept.run_getObj_map hb, goInt, Result.andThen]
/-- the entry's store, behind whatever else -/
def StoreAt (P : Program) (k t : TypeId) (b : Nat) (w1 : World) (st : Int) (f : Value → List (Value × Value)) : Prop :=
  ∀ W, W.heap[b]? = w1.heap[b]? → ∀ x, ∃ W', (Instr.entryStore t (.map (some b)) (.int .i64 st) x).run P W = .ok () W' ∧ MapAt P k W' b (f x) ∧ W.mapTurned W' b
theorem findBorn {es : Array MapEntry} {clock : Nat} (hs : Stamped es clock) {j : Nat} {e0 : MapEntry} (hj : es[j]? = some e0) : es.findIdx? (fun e => (e.born : Int) == (e0.born : Int)) = some j := by
  obtain ⟨hjl, hje⟩ := Array.getElem?_eq_some_iff.1 hj
  rw [Array.findIdx?_eq_some_iff_getElem]
  refine ⟨hjl, by simp [hje], fun i hij => ?_⟩
  have hi : i < es.size := by omega
  intro hq
  have hq2 : es[i].born = e0.born := by simp at hq; omega
  have := nodup_idx (x := e0.born) (i := i) (j := j) hs.2.1 (by rw [List.getElem?_map, Array.getElem?_toList, Array.getElem?_eq_getElem hi]; exact congrArg some hq2) (by rw [List.getElem?_map, Array.getElem?_toList, hj]; rfl)
  omega
theorem store_run {W : World} {es : Array MapEntry} {clock : Nat} (hs : Stamped es clock) (hk : ∀ x ∈ es.toList, ∃ kl, keyOf P k x.key = some kl) (hb1 : W.heap[b]? = some (.map es clock)) {j : Nat} {e0 : MapEntry} (hj : es[j]? = some e0) (x : Value) :
    ∃ W', (Instr.entryStore t (.map (some b)) (.int .i64 e0.born) x).run P W = .ok () W' ∧ MapAt P k W' b ((es.toList.map (fun e => (e.key, e.val))).set j (e0.key, x)) ∧ W.mapTurned W' b := by
  have hf := findBorn hs hj
  refine ⟨setBlock W b (.map (es.modify j fun e => { e with val := x }) clock), ?_, ⟨_, _, heap_setBlock_same hb1 _, stamped_modify hs _ _ (fun _ _ => rfl) (fun _ _ _ => rfl), ?_, ?_⟩, ⟨_, _, _, _, hb1, rfl⟩⟩
  · simp [Instr.entryStore, MapKept.run_getObj_map hb1, asInt, asIntOf, hf, MapKept.run_setObj_map _ hb1, Result.andThen, setBlock]
  · intro y hy
    have hy' : y.key ∈ (es.modify j (fun e => { e with val := x })).toList.map (·.key) := List.mem_map.2 ⟨y, hy, rfl⟩
    rw [modify_keys j (fun e => { e with val := x }) (fun _ _ => rfl)] at hy'
    obtain ⟨u, hu, hue⟩ := List.mem_map.1 hy'
    rw [← hue]
    exact hk u hu
  · apply List.ext_getElem?
    intro q
    rw [List.getElem?_map, Array.getElem?_toList, Array.getElem?_modify, List.getElem?_set]
    split
    · next hq =>
      subst hq
      obtain ⟨this, h0⟩ := Array.getElem?_eq_some_iff.1 hj
      simp [this, h0]
    · simp
theorem MapAt.entry_none (h : MapAt P k w b l) (K : Keyed P k) (ht : P.underlying t = some (.map k e)) {z : Value} (hz : ∀ W, (zeroValue e).run P W = .ok z W) {key : Value} {kl : Lit} (hkey : keyOf P k key = some kl) (hn : ∀ p ∈ l, p.1 ≠ key) :
    ∃ w1 st, (Instr.mapEntry t (.map (some b)) key).run P w = .ok (.tuple #[z, .int .i64 st]) w1 ∧ w.mapTurned w1 b ∧ StoreAt P k t b w1 st (fun x => l ++ [(key, x)]) ∧ MapAt P k w1 b (l ++ [(key, z)]) := by
  obtain ⟨es, clock, hb, hs, hk, hl, ⟨h1, h2⟩ | ⟨j, e0, h1, h2, h3, h4⟩⟩ := h.find K hkey
  · have hne : ∀ x ∈ es.toList, x.key ≠ key := fun x hx => h2 (x.key, x.val) (by rw [← hl]; exact List.mem_map.2 ⟨x, hx, rfl⟩)
    refine ⟨setBlock w b (.map (es.push ⟨key, z, clock⟩) (clock + 1)), clock, ?_, ⟨es, clock, _, _, hb, rfl⟩, ?_, ?_⟩
    · simp [Instr.mapEntry, run_underlying ht, MapKept.run_getObj_map hb, K.check w _ hkey, h1, hz, MapKept.run_setObj_map _ hb, Result.andThen, setBlock, goInt]
    · intro W hW x
      have hb1 : W.heap[b]? = some (.map (es.push ⟨key, z, clock⟩) (clock + 1)) := hW.trans (heap_setBlock_same hb _)
      have hlast : (es.push ⟨key, z, clock⟩)[es.size]? = some ⟨key, z, clock⟩ := by simp
      have := store_run (t := t) (stamped_push (val := z) hs hne) (fun y hy => by
        simp only [Array.toList_push, List.mem_append, List.mem_singleton] at hy
        rcases hy with hy | rfl
        · exact hk y hy
        · exact ⟨kl, hkey⟩) hb1 hlast x
      rw [Array.toList_push, List.map_append, hl] at this
      have hlen : l.length = es.size := by rw [← hl]; simp
      rw [← hlen, List.set_append_right _ _ (Nat.le_refl _), Nat.sub_self] at this
      exact this
    · refine ⟨_, _, heap_setBlock_same hb _, stamped_push (val := z) hs hne, fun y hy => ?_, by rw [Array.toList_push, List.map_append, hl]; rfl⟩
      simp only [Array.toList_push, List.mem_append, List.mem_singleton] at hy
      rcases hy with hy | rfl
      · exact hk y hy
      · exact ⟨kl, hkey⟩
  · exact absurd rfl (hn _ (List.mem_of_getElem? h4))
theorem MapAt.entry_some (h : MapAt P k w b l) (K : Keyed P k) (ht : P.underlying t = some (.map k e)) {key v : Value} {kl : Lit} (hkey : keyOf P k key = some kl) {j : Nat} (hj : l[j]? = some (key, v)) :
    ∃ w1 st, (Instr.mapEntry t (.map (some b)) key).run P w = .ok (.tuple #[v, .int .i64 st]) w1 ∧ w.mapTurned w1 b ∧ StoreAt P k t b w1 st (fun x => l.set j (key, x)) ∧ MapAt P k w1 b l := by
  obtain ⟨es, clock, hb, hs, hk, hl, ⟨h1, h2⟩ | ⟨i, e0, h1, h2, h3, h4⟩⟩ := h.find K hkey
  · exact absurd rfl (h2 _ (List.mem_of_getElem? hj))
  · have hij : i = j := by
      have hk1 : es.toList.map (·.key) = l.map (·.1) := by rw [← hl, List.map_map]; rfl
      exact nodup_idx (x := key) (hk1 ▸ hs.2.2) (by rw [List.getElem?_map, h4]; rfl) (by rw [List.getElem?_map, hj]; rfl)
    subst hij
    rw [hj] at h4
    cases h4
    have hi : es[i]? = some e0 := by simpa using h2
    have hsame : es.modify i (fun e => { e with key := key }) = es := by
      apply Array.ext_getElem?
      intro q
      rw [Array.getElem?_modify]
      split
      · next hq =>
        subst hq
        rw [hi]
        simp [← h3]
      · rfl
    refine ⟨setBlock w b (.map (es.modify i (fun e => { e with key := key })) clock), e0.born, ?_, ⟨es, clock, _, _, hb, rfl⟩, ?_, ?_⟩
    · simp [Instr.mapEntry, run_underlying ht, MapKept.run_getObj_map hb, K.check w _ hkey, h1, hi, h3, K.stays w hkey, MapKept.run_setObj_map _ hb, Result.andThen, setBlock, goInt]
    · intro W hW x
      rw [hsame] at hW
      have := store_run (t := t) hs hk (hW.trans (heap_setBlock_same hb _)) hi x
      rw [hl, h3] at this
      exact this
    · rw [hsame]
      exact ⟨_, _, heap_setBlock_same hb _, hs, hk, hl⟩
/-- 'm[key]++' at a map of whole numbers: what the look-up gives (ahead of the entry, and behind it), what the entry gives, what the store leaves -/
theorem MapAt.bump (h : MapAt P k w b l) (K : Keyed P k) (ht : P.underlying t = some (.map k e)) {z : Value} (hz : ∀ W, (zeroValue e).run P W = .ok z W) {key : Value} {kl : Lit} (hkey : keyOf P k key = some kl)
    (v0 : Value) (f : Value → List (Value × Value)) (hvf : (∃ j, l[j]? = some (key, v0) ∧ f = fun x => l.set j (key, x)) ∨ ((∀ p ∈ l, p.1 ≠ key) ∧ v0 = z ∧ f = fun x => l ++ [(key, x)])) :
    (Instr.lookup t (.map (some b)) key false).run P w = .ok v0 w ∧ ∃ w1 st, (Instr.mapEntry t (.map (some b)) key).run P w = .ok (.tuple #[v0, .int .i64 st]) w1 ∧ w.mapTurned w1 b ∧ StoreAt P k t b w1 st f ∧
      (Instr.lookup t (.map (some b)) key false).run P w1 = .ok v0 w1 := by
  rcases hvf with ⟨j, hj, rfl⟩ | ⟨hn, rfl, rfl⟩
  · refine ⟨h.look_some false K ht hkey hj, ?_⟩
    obtain ⟨w1, st, h1, h2, h3, h4⟩ := h.entry_some K ht hkey hj
    exact ⟨w1, st, h1, h2, h3, h4.look_some false K ht hkey hj⟩
  · refine ⟨h.look_none false K ht hz hkey hn, ?_⟩
    obtain ⟨w1, st, h1, h2, h3, h4⟩ := h.entry_none K ht hz hkey hn
    exact ⟨w1, st, h1, h2, h3, h4.look_some false K ht hkey (j := l.length) (by simp)⟩
theorem mapTurned_heap {w w1 : World} (h : w.mapTurned w1 b) {g : Nat} (hg : g ≠ b) : w1.heap[g]? = w.heap[g]? := by
  obtain ⟨es, c, es', c', hb, rfl⟩ := h
  unfold setBlock
  rw [Array.getElem?_setIfInBounds_ne (by omega)]
end
end Go.Proofs.YtaeenefdbahfoaaDoor
namespace Go.Proofs.YtaeenefdbahfoaaDoor
set_option linter.unusedSimpArgs false
set_option linter.unusedVariables false
open Go.RowKit Go.Proofs.YtaeenefdbahfoaaDoorW.PrintWords Go.Proofs.YtaeenefdbahfoaaDoorW.PrintLast Go.Proofs.YtaeenefdbahfoaaDoorW.PrintMore
open Go.ChangeMaps Go.MapKept Go.WideShapes
open Go.Maps (Keyed)
set_option maxRecDepth 100000
theorem ptLaidOut : laidOutB Tryd.prog = true := by kernel_rfl
theorem ptCells : Tryd.prog.cellsOf 63 = 2 := by kernel_rfl
theorem i64Cells : Tryd.prog.cellsOf 2 = 1 := by kernel_rfl
theorem i64wf (a : Int) (h : -9223372036854775808 ≤ a) (h' : a ≤ 9223372036854775807) : (Lit.int .i64 a).wf = true := by
  simp only [Lit.wf, IntKind.min, IntKind.max, IntKind.signed, IntKind.bits, Bool.and_eq_true, decide_eq_true_eq, if_true]
  omega
theorem lits_i64 (n : Nat) (a : Int) (h : -9223372036854775808 ≤ a) (h' : a ≤ 9223372036854775807) : Tryd.prog.keyLits (n + 1) 2 [.int .i64 a] = some [.int .i64 a] := by
  simp [Program.keyLits, Tryd.underlying2, i64wf a h h']
theorem lits_pt (n : Nat) (a b : Int) (ha : -9223372036854775808 ≤ a) (ha' : a ≤ 9223372036854775807) (hb : -9223372036854775808 ≤ b) (hb' : b ≤ 9223372036854775807) :
    Tryd.prog.keyLits (n + 2) 63 [.int .i64 a, .int .i64 b] = some [.int .i64 a, .int .i64 b] := by
  unfold Program.keyLits
  simp [Tryd.underlying63, ptCells, i64Cells, lits_i64 n a ha ha', lits_i64 n b hb hb']
end Go.Proofs.YtaeenefdbahfoaaDoor
namespace Go.Proofs.YtaeenefdbahfoaaDoor
set_option linter.unusedSimpArgs false
set_option linter.unusedVariables false
open Go.ChangeMaps Go.MapKept Go.WideShapes
open Go.Maps (Keyed)
section
variable {P : Program} {k e t : TypeId} {w : World} {b : Nat} {l : List (Value × Value)}
theorem erase_list (es : Array MapEntry) (j : Nat) (hj : j < es.size) : (es.eraseIdxIfInBounds j).toList = es.toList.eraseIdx j := by
  unfold Array.eraseIdxIfInBounds
  rw [dif_pos hj]
  simp
/-- 'delete(m, key)' of a key that is not there -/
theorem MapAt.del_none (h : MapAt P k w b l) (K : Keyed P k) (ht : P.underlying t = some (.map k e)) {key : Value} {kl : Lit} (hkey : keyOf P k key = some kl) (hn : ∀ p ∈ l, p.1 ≠ key) (ty : TypeId) :
    ∃ w1, (Builtin.delete_ #[t, k] ty #[.map (some b), key]).run P w = .ok (.tuple #[]) w1 ∧ MapAt P k w1 b l ∧ w.mapTurned w1 b := by
  obtain ⟨es, clock, hb, hs, hk, hl, ⟨h1, h2⟩ | ⟨j, e0, h1, h2, h3, h4⟩⟩ := h.find K hkey
  · exact ⟨setBlock w b (.map es clock), by simp [Builtin.delete_, run_underlying ht, MapKept.run_getObj_map hb, K.check w _ hkey, h1, MapKept.run_setObj_map _ hb, Result.andThen, setBlock], ⟨es, clock, heap_setBlock_same hb _, hs, hk, hl⟩, ⟨es, clock, _, _, hb, rfl⟩⟩
  · exact absurd rfl (hn _ (List.mem_of_getElem? h4))
/-- 'delete(m, key)' -/
theorem MapAt.del_some (h : MapAt P k w b l) (K : Keyed P k) (ht : P.underlying t = some (.map k e)) {key v : Value} {kl : Lit} (hkey : keyOf P k key = some kl) {j : Nat} (hj : l[j]? = some (key, v)) (ty : TypeId) :
    ∃ w1, (Builtin.delete_ #[t, k] ty #[.map (some b), key]).run P w = .ok (.tuple #[]) w1 ∧ MapAt P k w1 b (l.eraseIdx j) ∧ w.mapTurned w1 b := by
  obtain ⟨es, clock, hb, hs, hk, hl, ⟨h1, h2⟩ | ⟨i, e0, h1, h2, h3, h4⟩⟩ := h.find K hkey
  · exact absurd rfl (h2 _ (List.mem_of_getElem? hj))
  · have hij : i = j := by
      have hk1 : es.toList.map (·.key) = l.map (·.1) := by rw [← hl, List.map_map]; rfl
      exact nodup_idx (x := key) (hk1 ▸ hs.2.2) (by rw [List.getElem?_map, h4]; rfl) (by rw [List.getElem?_map, hj]; rfl)
    subst hij
    have his : i < es.size := by simpa using (List.getElem?_eq_some_iff.1 h2).1
    have hel := erase_list es i his
    refine ⟨setBlock w b (.map (es.eraseIdxIfInBounds i) clock), ?_, ⟨_, _, heap_setBlock_same hb _, stamped_erase hs i, fun y hy => ?_, ?_⟩, ⟨es, clock, _, _, hb, rfl⟩⟩
    · simp [Builtin.delete_, run_underlying ht, MapKept.run_getObj_map hb, K.check w _ hkey, h1, MapKept.run_setObj_map _ hb, Result.andThen, setBlock]
    · rw [hel] at hy
      exact hk y ((List.eraseIdx_sublist _ _).subset hy)
    · rw [hel, ← hl]
      first | rw [map_eraseIdx] | rw [← map_eraseIdx] | exact (List.map_eraseIdx ..)
end
end Go.Proofs.YtaeenefdbahfoaaDoor
namespace Go.Proofs.YtaeenefdbahfoaaDoor
open Go.RowKit Go.Proofs.YtaeenefdbahfoaaDoorW.PrintWords Go.Proofs.YtaeenefdbahfoaaDoorW.PrintLast Go.Proofs.YtaeenefdbahfoaaDoorW.PrintMore
open H
open Go.Shelf Go.RowKit Go.Lib Go.Sort
/-- the order of cells: -1, 0, 1. -/
def cmpCell (x y : S65) : Int :=
  if x.f0.f1 < y.f0.f1 ∨ (x.f0.f1 = y.f0.f1 ∧ (x.f0.f0 < y.f0.f0 ∨ (x.f0.f0 = y.f0.f0 ∧ x.f1 < y.f1))) then -1 else if x.f0.f0 = y.f0.f0 ∧ x.f0.f1 = y.f0.f1 ∧ x.f1 = y.f1 then 0 else 1
def encCell (x : S65) : List Value := [.int .i64 x.f0.f0, .int .i64 x.f0.f1, .int .i64 x.f1]
set_option maxHeartbeats 1000000 in
theorem compare_any (x y : S65) (w : World) :
    Calls Tryd.prog 75 #[.agg #[.int .i64 x.f0.f0, .int .i64 x.f0.f1, .int .i64 x.f1], .agg #[.int .i64 y.f0.f0, .int .i64 y.f0.f1, .int .i64 y.f1]] w fun e w' => e = .returned (.int .i64 (cmpCell x y)) ∧ ∃ q os', w' = grow (w.drewN q) os' := by
  obtain ⟨⟨a, b⟩, h⟩ := x
  obtain ⟨⟨c, d⟩, k⟩ := y
  simp only [cmpCell]
  go_enter Tryd.func75, Tryd.ntmps75
  go_wp2
  all_goals go_ret
  all_goals exact ⟨rfl, 0, _, by simp only [alloc_eq_grow, grow_grow]; rfl⟩
deriving instance DecidableEq for S63
deriving instance DecidableEq for S65
instance : Inhabited S65 := ⟨z65⟩
/-- Block g is a row of cells with room for cap of them; the first ones are d. -/
structure Row3 (w : World) (g cap : Nat) (d : Array S65) : Prop where
  le : d.size ≤ cap
  max : cap ≤ maxLen
  blk : ∃ cur, w.heap[g]? = some (.cells cur 65 (0, 0)) ∧ cur.size = cap * 3 ∧ ∀ j, j < d.size → cur[j * 3]? = some (.int .i64 d[j]!.f0.f0) ∧ cur[j * 3 + 1]? = some (.int .i64 d[j]!.f0.f1) ∧ cur[j * 3 + 2]? = some (.int .i64 d[j]!.f1)
set_option linter.unusedSimpArgs false
section
variable {w w1 : World} {g cap : Nat} {d : Array S65}
theorem Row3.lt (h : Row3 w g cap d) : g < w.heap.size := by
  obtain ⟨cur, hb, _⟩ := h.blk
  exact (Array.getElem?_eq_some_iff.1 hb).1
theorem Row3.cell (h : Row3 w g cap d) (j : Nat) (hj : j < d.size) : w.cell? ⟨g, j * 3, none⟩ = some (.int .i64 d[j]!.f0.f0) ∧ w.cell? ⟨g, j * 3 + 1, none⟩ = some (.int .i64 d[j]!.f0.f1) ∧ w.cell? ⟨g, j * 3 + 2, none⟩ = some (.int .i64 d[j]!.f1) := by
  obtain ⟨cur, hb, _, hc⟩ := h.blk
  simp only [World.cell?, hb]
  exact hc j hj
theorem Row3.frozen (h : Row3 w g cap d) (o : Nat) : w.frozen? ⟨g, o, none⟩ = false := by
  obtain ⟨cur, hb, _, hc⟩ := h.blk
  simp [World.frozen?, hb]
theorem Row3.of_block (h : Row3 w g cap d) (hb : w1.heap[g]? = w.heap[g]?) : Row3 w1 g cap d := ⟨h.le, h.max, by rw [hb]; exact h.blk⟩
theorem Row3.below (h : Row3 w g cap d) (hb : Below w.heap.size w w1) : Row3 w1 g cap d := h.of_block (hb.block g h.lt)
theorem Row3.grown (h : Row3 w g cap d) {row : Option Nat} (hg : w.grownBy w1 row) (hne : some g ≠ row) : Row3 w1 g cap d := h.of_block (hg.block g h.lt hne)
theorem Row3.set (h : Row3 w g cap d) (i : Nat) (hi : i < d.size) (x : S65) :
    Row3 (((w.setCell ⟨g, i * 3, none⟩ (.int .i64 x.f0.f0)).setCell ⟨g, i * 3 + 1, none⟩ (.int .i64 x.f0.f1)).setCell ⟨g, i * 3 + 2, none⟩ (.int .i64 x.f1)) g cap (d.setIfInBounds i x) := by
  obtain ⟨cur, hb, hs, hc⟩ := h.blk
  refine ⟨by simpa using h.le, h.max, _, blk_set (blk_set (blk_set hb _ _) _ _) _ _, by simp [hs], fun j hj => ?_⟩
  have hj' : j < d.size := by simpa using hj
  have hle := h.le
  have hcs : i * 3 + 2 < cur.size := by omega
  obtain ⟨c0, c1, c2⟩ := hc j hj'
  by_cases e : j = i
  · subst e
    rw [getElem!_set_same d j x hi]
    simp [Array.getElem?_setIfInBounds, show j * 3 < cur.size by omega, show j * 3 + 1 < cur.size by omega, hcs]
  · rw [getElem!_set_other d i j x e]
    simp [Array.getElem?_setIfInBounds, show ¬ i * 3 = j * 3 by omega, show ¬ i * 3 + 1 = j * 3 by omega, show ¬ i * 3 + 2 = j * 3 by omega, show ¬ i * 3 = j * 3 + 1 by omega, show ¬ i * 3 + 1 = j * 3 + 1 by omega, show ¬ i * 3 + 2 = j * 3 + 1 by omega, show ¬ i * 3 = j * 3 + 2 by omega, show ¬ i * 3 + 1 = j * 3 + 2 by omega, show ¬ i * 3 + 2 = j * 3 + 2 by omega, c0, c1, c2]
end
/-- A slice of the call's own: none at all, or a row. -/
theorem row_of_R {w : World} {base : Nat} {ok : Nat → Prop} {v : Value} {xs : List S65} (h : Kd.R k65 65 w base ok v xs) :
    (v = .slice none 0 0 ∧ xs = []) ∨ ∃ g cap, v = .slice (some ⟨g, 0, none⟩) xs.length cap ∧ base ≤ g ∧ ok g ∧ Row3 w g cap xs.toArray := by
  obtain ⟨hok, inner, ho, hr⟩ := h
  obtain ⟨hlen, hc | ⟨g, cap, cur, rfl, hg, hh, h1, h2, h3, h4⟩⟩ := ho
  · exact .inl ⟨hc.1, List.length_eq_zero_iff.1 hc.2⟩
  · refine .inr ⟨g, cap, rfl, hg, hok g (by simp [Value.ownBlock]), by simpa using h1, h2, cur, hh, h3, fun j hj => ?_⟩
    have hj' : j < xs.length := by simpa using hj
    have hm := hr.2 j _ (List.getElem?_eq_getElem hj')
    have hcs := k65_openM hm
    have e : xs.toArray[j]! = xs[j] := by simp [hj']
    rw [e]
    have hin : ∀ t, t < xs.length * 3 → cur[t]? = inner[t]? := fun t ht => by
      rw [← Array.getElem?_toList, ← h4, show xs.length * k65.sz = xs.length * 3 from rfl, List.getElem?_take_of_lt ht]
    have hat : ∀ i, i < 3 → inner[j * 3 + i]? = ((inner.drop (j * 3)).take 3)[i]? := fun i hi => by
      rw [List.getElem?_take_of_lt hi, List.getElem?_drop]
    change (inner.drop (j * 3)).take 3 = _ at hcs
    have h0 := hat 0 (by omega)
    have h1' := hat 1 (by omega)
    have h2' := hat 2 (by omega)
    rw [hcs] at h0 h1' h2'
    exact ⟨by rw [hin _ (by omega)]; exact h0, by rw [hin _ (by omega)]; exact h1', by rw [hin _ (by omega)]; exact h2'⟩
theorem R_of_row {w : World} {base g cap : Nat} {xs : List S65} (h : Row3 w g cap xs.toArray) (hg : base ≤ g) {ok : Nat → Prop} (hok : ok g) :
    Kd.R k65 65 w base ok (.slice (some ⟨g, 0, none⟩) xs.length cap) xs := by
  obtain ⟨cur, hb, hs, hc⟩ := h.blk
  have hle : xs.length ≤ cap := by simpa using h.le
  refine ⟨fun k hk => by have : g = k := by simpa [Value.ownBlock] using hk
                         exact this ▸ hok, cur.toList.take (xs.length * 3), ⟨by show _ = xs.length * 3; simp [hs]; omega, .inr ⟨g, cap, cur, rfl, hg, hb, hle, h.max, hs, rfl⟩⟩, by show _ = xs.length * 3; simp [hs]; omega, fun j p hj => ?_⟩
  obtain ⟨hj', rfl⟩ := List.getElem?_eq_some_iff.1 hj
  obtain ⟨c0, c1, c2⟩ := hc j (by simpa using hj')
  have e : xs.toArray[j]! = xs[j] := by simp [hj']
  rw [e] at c0 c1 c2
  have : ((cur.toList.take (xs.length * 3)).drop (j * 3)).take 3 = [.int .i64 xs[j].f0.f0, .int .i64 xs[j].f0.f1, .int .i64 xs[j].f1] := by
    apply List.ext_getElem?
    intro i
    by_cases hi : i < 3
    · rw [List.getElem?_take_of_lt hi, List.getElem?_drop, List.getElem?_take_of_lt (by omega), Array.getElem?_toList]
      have : i = 0 ∨ i = 1 ∨ i = 2 := by omega
      rcases this with rfl | rfl | rfl
      · exact c0
      · exact c1
      · exact c2
    · rw [List.getElem?_eq_none (by simp; omega), List.getElem?_eq_none (by simp; omega)]
  show (k65.M w base _ xs[j] (((cur.toList.take (xs.length * 3)).drop (j * 3)).take 3))
  rw [this]
  exact k65_mkM _ _ _ _
/-- slices.Compact at cells. -/
theorem holds_row {w : World} {g cap : Nat} {d : Array S65} (h : Row3 w g cap d) : HoldsK encCell 3 w g 0 d := by
  intro t ht
  have ht' : t < d.size * 3 := by simpa using ht
  refine ⟨?_, h.frozen _⟩
  rw [get_flatK _ _ _ _ ht']
  obtain ⟨c0, c1, c2⟩ := h.cell (t / 3) (by omega)
  have hr : t % 3 = 0 ∨ t % 3 = 1 ∨ t % 3 = 2 := by omega
  rcases hr with e | e | e
  · rw [e, show 0 + t = t / 3 * 3 by omega]; exact c0
  · rw [e, show 0 + t = t / 3 * 3 + 1 by omega]; exact c1
  · rw [e, show 0 + t = t / 3 * 3 + 2 by omega]; exact c2
theorem row_sorted {w : World} {g cap n : Nat} {os : Array Obj} {d d' : Array S65} (h : Row3 w g cap d) (hs : d'.size = d.size) : Row3 (sortWorldK encCell 3 w g 0 n d' os) g cap d' ∧ w.grownBy (sortWorldK encCell 3 w g 0 n d' os) (some g) := by
  obtain ⟨cur, hb, hcs, hc⟩ := h.blk
  have hg := h.lt
  have hle := h.le
  have hheap : (sortWorldK encCell 3 w g 0 n d' os).heap[g]? = some (.cells (putCells id 0 (flatK encCell 3 d') cur) 65 (0, 0)) := by
    unfold sortWorldK putRowK
    rw [heap_grow_old _ _ (by simpa using hg)]
    simp [putRow, mapBlock, Sort.ahead, Array.getElem?_modify, hb, onCells]
  refine ⟨⟨by rw [hs]; exact hle, h.max, _, hheap, by simp [putCells, hcs], fun j hj => ?_⟩, rfl, rfl, rfl, by simp [sortWorldK, putRowK], fun k hk hne => ?_⟩
  · have hj' : j < d.size := by omega
    have key : ∀ i, i < 3 → (putCells id 0 (flatK encCell 3 d') cur)[j * 3 + i]? = some ((encCell d'[j]!)[i]!) := fun i hi => by
      have hlt : j * 3 + i < d'.size * 3 := by omega
      have := get_flatK encCell 3 d' (j * 3 + i) hlt
      rw [show (j * 3 + i) / 3 = j by omega, show (j * 3 + i) % 3 = i by omega] at this
      simp only [putCells, Array.getElem?_mapIdx, id]
      rw [Array.getElem?_eq_getElem (show j * 3 + i < cur.size by omega)]
      simp only [Option.map_some, Nat.zero_le, true_and, Nat.zero_add, Nat.sub_zero, size_flatK, hlt, ↓reduceIte, this]
    exact ⟨key 0 (by omega), key 1 (by omega), key 2 (by omega)⟩
  · unfold sortWorldK putRowK
    rw [heap_grow_old _ _ (by simpa using hk)]
    have : g ≠ k := fun e => hne (by rw [e])
    simp [putRow, mapBlock, Sort.ahead, Array.getElem?_modify, this]
theorem lt_cell (x y : S65) : ltOf cmpCell x y = decide (x.f0.f1 < y.f0.f1 ∨ (x.f0.f1 = y.f0.f1 ∧ (x.f0.f0 < y.f0.f0 ∨ (x.f0.f0 = y.f0.f0 ∧ x.f1 < y.f1)))) := by
  unfold ltOf cmpCell
  split
  · simp [*]
  · split <;> simp [*]
theorem swo_cell : SWO (ltOf cmpCell) where
  irrefl x := by rw [lt_cell]; simp
  trans x y z h1 h2 := by rw [lt_cell] at *; simp only [decide_eq_true_eq] at *; omega
  ntrans x y z h1 h2 := by rw [lt_cell] at *; simp only [decide_eq_false_iff_not] at *; omega
theorem tot_cell (x y : S65) (h1 : ltOf cmpCell x y = false) (h2 : ltOf cmpCell y x = false) : x = y := by
  rw [lt_cell] at *
  obtain ⟨⟨a, b⟩, h⟩ := x
  obtain ⟨⟨c, d⟩, k⟩ := y
  simp only [decide_eq_false_iff_not, S65.mk.injEq, S63.mk.injEq] at *
  omega
/-- the list, rising -/
def sortCells (xs : List S65) : List S65 := xs.mergeSort fun x y => !(ltOf cmpCell) y x
end Go.Proofs.YtaeenefdbahfoaaDoor
