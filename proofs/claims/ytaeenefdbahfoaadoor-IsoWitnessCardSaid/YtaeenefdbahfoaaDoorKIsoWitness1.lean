/- Parts of the proof of IsoWitness, merged out of our texts by wip/tools/pack.py. -/
import Derived.Test.YtaeenefdbahfoaaDoorKIsoWitness0
import Derived.Test.YtaeenefdbahfoaaDoorProg
import Derived.WalkKit
import Derived.WalkSpells
import Derived.WalkLawsBesides
import Derived.Deep.LoopGhost
import Derived.Deep.QuietTactic
import Derived.BigQuiet
import Derived.Outline
import Derived.Laws.Rows
import Derived.Test.YtaeenefdbahfoaaDoorRows
import Derived.Test.YtaeenefdbahfoaaDoorTie
import Derived.ProofKit
import Derived.LaidLaws
import Derived.LaidHandle
import Derived.LaidMore
import Derived.Lib.SmallJoins
import Derived.OpenShut
import Derived.ChangeArms
import Derived.SevenTiedAt
import Derived.Laws.StructEq
import Derived.Below
import Derived.Deep.Draws
import Derived.Deep.AppendLies
import Derived.Maps.AppendAt
import Derived.OwnWalk
import Derived.Laws.BytesArg
import Derived.Laws.MakeOwn
import Derived.Laws.OwnMore
import Derived.Deep.OwnRows
import Derived.Tactics
import Derived.Lib.ConvBytes
import Derived.Laws.Slices
import Derived.KernelRfl
import Derived.RowKit3
import Derived.WideLaws
import Derived.Deep.DeepCutAuto
import Derived.Deep.CutBlock
import Derived.Deep.RegionHeld3
import Derived.Lib.AppendStr
import Derived.ArgAppend
import Derived.Laws.IdiomCopy
import Derived.OrdersHeld
import Derived.Laws.BitsLemmas
import Derived.RowKit
import Derived.Shelf.SlSortCmp.NoneTotal
import Derived.Shelf.SlSortCmp.WholeK
import Derived.Shelf.Lay
namespace Go.Proofs.YtaeenefdbahfoaaDoorW.PrintMore
set_option linter.unusedSimpArgs false
set_option linter.unusedVariables false
open Go.RowKit Go.Proofs.YtaeenefdbahfoaaDoorW.PrintWords
namespace Kd
open Go.Proofs.YtaeenefdbahfoaaDoorW.PrintWords.Kd
end Kd
namespace Kd
open Go.Proofs.YtaeenefdbahfoaaDoorW.PrintWords.Kd
section
variable {α : Type} {d : Kd α} {e base g N : Nat} {ok : Nat → Prop} {W w1 : World} {u v : Value} {xs : List α}
end
end Kd
theorem max2_int (k k' : IntKind) (x y : Int) : Builtin.max2 (.int k x) (.int k' y) = pure (.int k (if x < y then y else x)) := by simp only [Builtin.max2, gt_iff_lt]
theorem min2_int (k k' : IntKind) (x y : Int) : Builtin.min2 (.int k x) (.int k' y) = pure (.int k (if y < x then y else x)) := by simp only [Builtin.min2]
theorem max_two (ats : Array TypeId) (ty : TypeId) (a b : Value) : Builtin.max_ ats ty #[a, b] = (Builtin.max2 a b >>= fun s => pure s) := by simp only [Builtin.max_, List.foldlM_cons, List.foldlM_nil]
theorem min_two (ats : Array TypeId) (ty : TypeId) (a b : Value) : Builtin.min_ ats ty #[a, b] = (Builtin.min2 a b >>= fun s => pure s) := by simp only [Builtin.min_, List.foldlM_cons, List.foldlM_nil]
theorem max_three (ats : Array TypeId) (ty : TypeId) (a b c : Value) : Builtin.max_ ats ty #[a, b, c] = (Builtin.max2 a b >>= fun s => Builtin.max2 s c >>= fun s => pure s) := by simp only [Builtin.max_, List.foldlM_cons, List.foldlM_nil]
theorem min_three (ats : Array TypeId) (ty : TypeId) (a b c : Value) : Builtin.min_ ats ty #[a, b, c] = (Builtin.min2 a b >>= fun s => Builtin.min2 s c >>= fun s => pure s) := by simp only [Builtin.min_, List.foldlM_cons, List.foldlM_nil]
theorem max_four (ats : Array TypeId) (ty : TypeId) (a b c d : Value) : Builtin.max_ ats ty #[a, b, c, d] = (Builtin.max2 a b >>= fun s => Builtin.max2 s c >>= fun s => Builtin.max2 s d >>= fun s => pure s) := by simp only [Builtin.max_, List.foldlM_cons, List.foldlM_nil]
theorem min_four (ats : Array TypeId) (ty : TypeId) (a b c d : Value) : Builtin.min_ ats ty #[a, b, c, d] = (Builtin.min2 a b >>= fun s => Builtin.min2 s c >>= fun s => Builtin.min2 s d >>= fun s => pure s) := by simp only [Builtin.min_, List.foldlM_cons, List.foldlM_nil]
end Go.Proofs.YtaeenefdbahfoaaDoorW.PrintMore
namespace Go.Proofs.YtaeenefdbahfoaaDoorW.PrintWords
open Go.RowKit
section
variable {P : Program} {ops : Array Oper} {rest : List Oper} {o : Oper} {a : Act} {Q : Exit → Act → World → Prop} {W : World}
theorem gate_callee {f : FuncId} {as_ : Array Operand} {ts : Array TypeId} (_ho : o.op = .call { callee := .value (.func f), args := as_, argTypes := ts }) (h : wpList P ops Q (o :: rest) a W) : wpList P ops Q (o :: rest) a W := h
theorem gate_builtin {b : Builtin} {xs : Array Operand} {ts : Array TypeId} (_ho : o.op = .call { callee := .builtin b, args := xs, argTypes := ts }) (h : wpList P ops Q (o :: rest) a W) : wpList P ops Q (o :: rest) a W := h
end
def shl (k : IntKind) (x y : Int) : Int := k.wrap (x * 2 ^ min y.toNat k.bits)
def shr (k : IntKind) (x y : Int) : Int := x / 2 ^ min y.toNat k.bits
theorem shl_small {k : IntKind} {x y j : Int} (h : shl k x y = j) (hy : y ≤ k.bits) : k.wrap (x * 2 ^ y.toNat) = j := by rw [← h]; unfold shl; rw [Nat.min_eq_left (by omega)]
theorem shr_small {k : IntKind} {x y j : Int} (h : shr k x y = j) (hy : y ≤ k.bits) : x / 2 ^ y.toNat = j := by rw [← h]; unfold shr; rw [Nat.min_eq_left (by omega)]
theorem drewN_self (w : World) (n : Nat) : w.drewN n = w.drewN n := rfl
namespace Kd
section
variable {α : Type} {d : Kd α} {e base : Nat} {ok : Nat → Prop} {W w1 : World} {v : Value} {xs : List α}
end
section
variable {α : Type} {d : Kd α} {e base g n cap : Nat} {ok oki okp : Nat → Prop} {W : World} {xs : List α} {i : Int} {c : List Value}
end
section
variable {α : Type} {d : Kd α} {e base b b' g N : Nat} {ok ok1 : Nat → Prop} {W W2 w1 : World} {u v : Value} {xs ys : List α} {S : Nat → Prop}
end
end Kd
end Go.Proofs.YtaeenefdbahfoaaDoorW.PrintWords
namespace Go.Proofs.YtaeenefdbahfoaaDoorW.PrintWords
open Go.RowKit
namespace Kd
def V {α : Type} (d : Kd α) (_e : Nat) (W : World) (_base : Nat) (ok : Nat → Prop) (v : Value) (xs : List α) : Prop := ∃ A c, v = .slice A xs.length c ∧ xs.length ≤ c ∧ F d W ok A xs.length xs
section
variable {α β : Type} {d : Kd α} {e base base' n m c g N' lo hi : Nat} {ok ok' S : Nat → Prop} {w W w1 : World} {A : Option Addr} {ad : Addr} {u v v1 : Value} {xs : List α}
theorem V_map (h : V d e W base ok v xs) (hF : ∀ A, F d W ok A xs.length xs → F d w1 ok' A xs.length xs) : V d e w1 base' ok' v xs := by
 obtain ⟨A, c, hv, hl, hf⟩ := h
 exact ⟨A, c, hv, hl, hF A hf⟩
theorem V_mk (hl : xs.length ≤ c) (hf : F d W ok A xs.length xs) : V d e W base ok (.slice A xs.length c) xs := ⟨A, c, rfl, hl, hf⟩
theorem V_slice (h : V d e W base ok v xs) : ∃ A c, v = .slice A xs.length c := by
 obtain ⟨A, c, hv, _⟩ := h
 exact ⟨A, c, hv⟩
theorem V_at (h : V d e W base ok (.slice A n c) xs) : n = xs.length ∧ n ≤ c ∧ F d W ok A xs.length xs := by
 obtain ⟨A', c', hv, hl, hf⟩ := h
 injection hv with ha hn hc
 subst ha; subst hc
 exact ⟨hn, by rw [hn]; exact hl, hf⟩
theorem V_reads' (h : V d e W base ok (.slice A n c) xs) : n = xs.length ∧ n ≤ c ∧ d.C W A xs.length xs := ⟨(V_at h).1, (V_at h).2.1, F_now (V_at h).2.2⟩
theorem V_nil (d : Kd α) (e : Nat) (W : World) (base : Nat) (ok : Nat → Prop) : V d e W base ok (.slice none 0 0) [] := ⟨none, 0, rfl, Nat.le_refl _, F_nil d W ok⟩
theorem V_mono (h : V d e W base ok v xs) (hok : ∀ k, ok k → ok' k) : V d e W base ok' v xs := V_map h (fun _ hf => F_mono hf hok)
theorem V_lower (h : V d e W base ok v xs) (_ : base' ≤ base) : V d e W base' ok v xs := h
theorem V_below (h : V d e W base ok v xs) (hb : Below W.heap.size W w1) : V d e w1 base ok v xs := V_map h (fun _ hf => F_below hf hb)
theorem V_alloc (h : V d e W base ok v xs) (o : Obj) : V d e (W.alloc o) base ok v xs := V_map h (fun _ hf => F_alloc hf o)
theorem V_drew (h : V d e W base ok v xs) : V d e W.drew base ok v xs := V_map h (fun _ hf => F_drew hf)
theorem V_drewN (h : V d e W base ok v xs) (m : Nat) : V d e (W.drewN m) base ok v xs := V_map h (fun _ hf => F_drewN hf m)
theorem V_elder' (h : V d e W base ok v xs) (hbase : ∀ k, u.ownBlock = some k → W.heap.size ≤ k) (hb : Below W.heap.size W w1) : V d e w1 base (fun k => ok k ∧ some k ≠ u.ownBlock) v xs := V_map h (fun _ hf => F_elder' hf hbase hb)
theorem FK_slice_open {l : List α} {cs : List Value} (h : FK (Kd.slice e d) W ok l cs) : ∃ A c, cs = [.slice A l.length c] ∧ l.length ≤ c ∧ F d W ok A l.length l := by
 obtain ⟨A, c, rfl, hl, _⟩ := FK_now h
 refine ⟨A, c, rfl, hl, fun W' hW => ?_⟩
 obtain ⟨A', c', he, _, g'⟩ := h W' hW
 injection he with he _
 injection he with ha _ _
 rw [ha]
 exact g'
theorem FK_slice_mk {l : List α} (hl : l.length ≤ c) (hf : F d W ok A l.length l) : FK (Kd.slice e d) W ok l [.slice A l.length c] := fun W' hW => ⟨A, c, rfl, hl, hf W' hW⟩
theorem R_newM {M : Nat → Prop} (h : d.R e w1 W.heap.size ok v xs) (hle : w.heap.size ≤ W.heap.size) (hM : ∀ k, w.heap.size ≤ k → M k) : d.R e w1 W.heap.size (fun k => M k ∧ ok k) v xs := R_mono (R_bound h) (fun k hk => ⟨hM k (Nat.le_trans hle hk.2.1), hk.1⟩)
end
end Kd
end Go.Proofs.YtaeenefdbahfoaaDoorW.PrintWords
namespace Go.Proofs.YtaeenefdbahfoaaDoor
theorem hb_ {P : Prop} (h : P := by repeat (first | (with_reducible first | exact HB.out | apply ba_ | apply bn_ | apply bd_) | exact HB.out)) : P := h
theorem hg_ {P Q : Prop} (q : Q) (h : Q → P := by intro q_; repeat (first | (with_reducible first | exact HB.out | apply ba_ | apply bn_ | apply bd_ | refine below_set ?_ q_) | exact HB.out)) : P := h q
theorem hg2_ {P Q R : Prop} (q : Q) (r : R) (h : Q → R → P := by intro q_ r_; repeat (first | (with_reducible first | exact HB.out | apply ba_ | apply bn_ | apply bd_ | refine below_set ?_ q_ | refine below_set ?_ r_) | exact HB.out)) : P := h q r
theorem hg3_ {P Q R S : Prop} (q : Q) (r : R) (s : S) (h : Q → R → S → P := by intro q_ r_ s_; repeat (first | (with_reducible first | exact HB.out | apply ba_ | apply bn_ | apply bd_ | refine below_set ?_ q_ | refine below_set ?_ r_ | refine below_set ?_ s_) | exact HB.out)) : P := h q r s
theorem bk_ {P Q : Prop} (q : Q) (h : Q → P := by intro q_; (with_reducible repeat (first | apply bN_ | apply bD_ | apply bA_)); exact q_) : P := h q
theorem kr_ {P Q : Prop} (q : Q) (h : Q → P := by intro q_; (with_reducible repeat (first | apply Kd.R_alloc | apply Kd.R_drewN | apply Kd.R_drew)); exact q_) : P := h q
theorem kn_ {P Q : Prop} (q : Q) (h : Q → P := by intro q_; (with_reducible repeat (first | apply Kd.N_alloc | apply Kd.N_drewN | apply Kd.N_drew)); exact q_) : P := h q
theorem ar_ {P : Prop} (h : P := by (try simp only [List.map_toArray, List.map_cons, List.map_nil]); first | done | rfl | (simp only [List.length_drop, List.length_take]; rfl)) : P := h
theorem as_ {P : Prop} (h : P := by first | (with_reducible assumption) | assumption) : P := h
theorem rs_ {P : Prop} (h : P := by first | rfl | (simp; done) | (simp [*]; done)) : P := h
theorem er_ {P : Prop} (h : P := by first | rfl | (simp [errW_none, errW_some] <;> rfl) | (simp [*, errW_none, errW_some] <;> rfl)) : P := h
open Go Go.RowKit Go.Proofs.YtaeenefdbahfoaaDoorW.PrintWords Go.Proofs.YtaeenefdbahfoaaDoorW.PrintLast Go.Proofs.YtaeenefdbahfoaaDoorW.PrintMore in
theorem puts_ : (∀ (a : Act) (v : Value) (n : Nat), a.put (some n) v = { a with tmps := a.tmps.setIfInBounds n v }) ∧ (∀ (a : Act) (v : Value), a.put none v = a) ∧ (∀ (xs : List Value) (i : Nat) (v : Value), xs.toArray.setIfInBounds i v = (xs.set i v).toArray) ∧ (∀ (a b : Value) (l : List Value), (a :: l).set 0 b = b :: l) ∧ (∀ (a b : Value) (l : List Value) (n : Nat), (a :: l).set (n + 1) b = a :: l.set n b) ∧ (∀ n : Int, IntKind.i64.wrap n = wrap64 n) ∧ (∀ n : Int, IntKind.i32.wrap n = wrap32 n) :=
  ⟨fun _ _ _ => rfl, fun _ _ => rfl, fun _ _ _ => List.setIfInBounds_toArray .., fun _ _ _ => rfl, fun _ _ _ _ => rfl, i64_w, i32_w⟩
end Go.Proofs.YtaeenefdbahfoaaDoor
namespace Go.Proofs.YtaeenefdbahfoaaDoor
set_option linter.unusedSimpArgs false
set_option linter.unusedVariables false
open Go.RowKit Go.Proofs.YtaeenefdbahfoaaDoorW.PrintWords Go.Proofs.YtaeenefdbahfoaaDoorW.PrintLast Go.Proofs.YtaeenefdbahfoaaDoorW.PrintMore
theorem bset {w W : World} (h : Below w.heap.size w W) (b o : Nat) (hb : w.heap.size ≤ b) (v : Value) : Below w.heap.size w (W.setCell ⟨b, o, none⟩ v) := h.setCell (p := ⟨b, o, none⟩) hb v
theorem below_alloc2 {B : Nat} {w W : World} (h : Below B w W) (hB : B ≤ W.heap.size) (o : Obj) : Below B w (W.alloc o) := h.alloc hB o
theorem one_new (w : World) (c1 : Array Value) (t1 : Nat) : ∃ w1, w1 = w.alloc (.cells c1 t1) ∧ (∀ j v, c1[j]? = some v → w1.cell? ⟨w.heap.size, j, none⟩ = some v) ∧ w.heap.size < w1.heap.size ∧ Below w.heap.size w w1 :=
 ⟨_, rfl, fun j v hv => by simpa using hv, by simp, below_alloc (Below.refl _ _) _⟩
theorem two_new (w : World) (c1 c2 : Array Value) (t1 t2 : Nat) : ∃ w2, w2 = (w.alloc (.cells c1 t1)).alloc (.cells c2 t2) ∧ (∀ j v, c1[j]? = some v → w2.cell? ⟨w.heap.size, j, none⟩ = some v) ∧ (∀ j v, c2[j]? = some v → w2.cell? ⟨w.heap.size + 1, j, none⟩ = some v) ∧ w.heap.size + 1 < w2.heap.size ∧ Below w.heap.size w w2 := by
 obtain ⟨w1, e1, h1, s1, b1⟩ := one_new w c1 t1
 obtain ⟨w2, e2, h2, s2, b2⟩ := one_new w1 c2 t2
 have z : w1.heap.size = w.heap.size + 1 := by rw [e1]; simp
 exact ⟨w2, by rw [e2, e1], fun j v hv => (b2.cell (p := ⟨w.heap.size, j, none⟩) s1).trans (h1 j v hv), fun j v hv => by rw [← z]; exact h2 j v hv, by omega, b1.trans (b2.mono (by omega))⟩
theorem and_3 (n : Int) : bits .and .i64 n 3 = n % 4 := by
 have hm : (BitVec.ofInt 64 3).toNat = 2 ^ 2 - 1 := by decide
 have key : (BitVec.ofInt 64 n &&& BitVec.ofInt 64 3).toNat = (n % ((2 ^ 64 : Nat) : Int)).toNat % 2 ^ 2 := by
  rw [BitVec.toNat_and, BitVec.toNat_ofInt, hm, Nat.and_two_pow_sub_one_eq_mod]
 show IntKind.i64.wrap ((BitVec.ofInt 64 n &&& BitVec.ofInt 64 3).toNat : Nat) = n % 4
 rw [key, IntKind.wrap_i64]
 omega
theorem and_255 (n : Int) : bits .and .i64 n 255 = n % 256 := by
 have hm : (BitVec.ofInt 64 255).toNat = 2 ^ 8 - 1 := by decide
 have key : (BitVec.ofInt 64 n &&& BitVec.ofInt 64 255).toNat = (n % ((2 ^ 64 : Nat) : Int)).toNat % 2 ^ 8 := by
  rw [BitVec.toNat_and, BitVec.toNat_ofInt, hm, Nat.and_two_pow_sub_one_eq_mod]
 show IntKind.i64.wrap ((BitVec.ofInt 64 n &&& BitVec.ofInt 64 255).toNat : Nat) = n % 256
 rw [key, IntKind.wrap_i64]
 omega
theorem tmod_range (x m : Int) (hm : 0 < m) : -m < x.tmod m ∧ x.tmod m < m := by
 rcases Int.le_total 0 x with h | h
 ·rw [Int.tmod_eq_emod_of_nonneg h]
  have := Int.emod_nonneg x (show m ≠ 0 by omega)
  have := Int.emod_lt_of_pos x hm
  omega
 ·have e : x.tmod m = -((-x).tmod m) := by rw [Int.neg_tmod, Int.neg_neg]
  rw [e, Int.tmod_eq_emod_of_nonneg (show 0 ≤ -x by omega)]
  have := Int.emod_nonneg (-x) (show m ≠ 0 by omega)
  have := Int.emod_lt_of_pos (-x) hm
  omega
section
variable {P : Program} {ops : Array Oper} {rest : List Oper} {o : Oper} {a : Act} {Q : Exit → Act → World → Prop} {α : Type}
theorem app1 (d : Kd α) (base : Nat) (s x : Operand) (t e : TypeId) (z : Value) (bytes : Nat) {w0 W : World} (v : Value) (xs : List α) (p : α) (cs : List Value) (B : Nat)
    (hgd : o.guard = none) (ho : o.op = .call { callee := .builtin .append, args := #[s, x], argTypes := #[t, t] })
    (ht : P.underlying t = some (.slice e)) (hinfo : (P.info? e).map (fun i => (i.zero, i.size, i.bytes)) = some (some z, d.sz, bytes)) (hz : z.cells.size = d.sz) (hs0 : 0 < d.sz) (hb0 : 0 < bytes)
    (hs : a.eval s = v) (hB : W.heap.size = B) (hx : a.eval x = .slice (some ⟨B, 0, none⟩) 1 1) (hp : d.M W base (fun _ => False) p cs)
    (HO : d.R e W base (fun _ => True) v xs) (HB : Below base w0 W) (hbase : base ≤ W.heap.size) (hl : (xs.length + 1) * bytes ≤ 140737488355328)
    (h : ∀ v1 w1, d.R e w1 base (fun _ => True) v1 (xs ++ [p]) → Below base w0 w1 → wpList P ops Q rest (a.put o.dst v1) w1) :
    wpList P ops Q (o :: rest) a (W.alloc (.cells cs.toArray e)) := by
 subst hB
 exact Kd.R_append d base hgd s x t e z bytes ho ht hinfo hz hs0 hb0 v xs p cs (fun _ => True) (fun _ => False) hs hx hp (fun _ h => h.elim) (fun _ _ => trivial) HO HB hbase hl (fun v1 w1 h1 h2 _ _ => h v1 w1 h1 h2)
theorem appN (d : Kd α) (base : Nat) (s x : Operand) (t e : TypeId) (z : Value) (bytes : Nat) {w0 W : World} (v : Value) (xs ys : List α) (A : Option Addr) (c : Nat)
    (hgd : o.guard = none) (ho : o.op = .call { callee := .builtin .append, args := #[s, x], argTypes := #[t, t] })
    (ht : P.underlying t = some (.slice e)) (hinfo : (P.info? e).map (fun i => (i.zero, i.size, i.bytes)) = some (some z, d.sz, bytes)) (hz : z.cells.size = d.sz) (hs0 : 0 < d.sz) (hb0 : 0 < bytes)
    (hs : a.eval s = v) (hx : a.eval x = .slice A ys.length c) (hKM : ∀ x cs, d.K W x cs → d.M W base (fun _ => False) x cs)
    (HO : d.R e W base (fun _ => True) v xs) (HR : d.C W A ys.length ys) (HB : Below base w0 W) (hbase : base ≤ W.heap.size) (hl : (xs.length + ys.length) * bytes ≤ 140737488355328)
    (h : ∀ v1 w1, d.R e w1 base (fun _ => True) v1 (xs ++ ys) → Below base w0 w1 → wpList P ops Q rest (a.put o.dst v1) w1) :
    wpList P ops Q (o :: rest) a W :=
 Kd.R_append_rows d base hgd s x t e z bytes ho ht hinfo hz hs0 hb0 v xs ys A ys.length c (fun _ => True) (fun _ => False) hs hx HO HR hKM (fun _ h => h.elim) (fun _ _ => trivial) HB hbase hl (fun v1 w1 h1 h2 _ _ => h v1 w1 h1 h2)
end
end Go.Proofs.YtaeenefdbahfoaaDoor
namespace Go.Proofs.YtaeenefdbahfoaaDoor
set_option linter.unusedSimpArgs false
set_option linter.unusedVariables false
set_option maxRecDepth 100000
set_option maxHeartbeats 16000000
open Go.RowKit Go.Proofs.YtaeenefdbahfoaaDoorW.PrintWords Go.Proofs.YtaeenefdbahfoaaDoorW.PrintLast Go.Proofs.YtaeenefdbahfoaaDoorW.PrintMore
def mat0 (o : Int) : Int × Int × Int × Int := if o < 6 then (1, 0, 0, 1) else (0, 1, 1, 0)
def turnM (m : Int × Int × Int × Int) : Int × Int × Int × Int := (-m.2.2.1, -m.2.2.2, m.1 + m.2.2.1, m.2.1 + m.2.2.2)
def turns (o : Int) : Nat → Int × Int × Int × Int
 | 0 => mat0 o
 | k + 1 => turnM (turns o k)
theorem turns_bd (o : Int) (k : Nat) (hk : k ≤ 6) : (-1 ≤ (turns o k).1 ∧ (turns o k).1 ≤ 1) ∧ (-1 ≤ (turns o k).2.1 ∧ (turns o k).2.1 ≤ 1) ∧ (-1 ≤ (turns o k).2.2.1 ∧ (turns o k).2.2.1 ≤ 1) ∧ (-1 ≤ (turns o k).2.2.2 ∧ (turns o k).2.2.2 ≤ 1) := by
 have : k = 0 ∨ k = 1 ∨ k = 2 ∨ k = 3 ∨ k = 4 ∨ k = 5 ∨ k = 6 := by omega
 rcases this with rfl | rfl | rfl | rfl | rfl | rfl | rfl <;> (simp only [turns, turnM, mat0]; split <;> decide)
def matV (m : Int × Int × Int × Int) : Value := .agg #[.int .i64 m.1, .int .i64 m.2.1, .int .i64 m.2.2.1, .int .i64 m.2.2.2]
theorem matrix_any (o : Int) (w : World) (h0 : 0 ≤ o) (h1 : o < 12) :
    Calls Tryd.prog 107 #[.int .i64 o] w fun e w' => e = .returned (matV (turns o (o % 6).toNat)) ∧ Below w.heap.size w w' := by
 have hb6 : 0 ≤ o % 6 ∧ o % 6 < 6 := by omega
 obtain ⟨hb6, hb7⟩ := hb6
 by_cases h : o < 6
 all_goals
  go_enter Tryd.func107, Tryd.ntmps107
  go_wp2
  go_loopw [10] (fun i wr => ∃ k : Nat, k ≤ 6 ∧ (k : Int) ≤ o % 6 ∧ i = .int .i64 k ∧ wr = (w.alloc (.cells #[.int .i64 0, .int .i64 0, .int .i64 0, .int .i64 0] 174)).alloc (.cells #[.int .i64 (turns o k).1, .int .i64 (turns o k).2.1, .int .i64 (turns o k).2.2.1, .int .i64 (turns o k).2.2.2] 174)) (fun i _ => 6 - (intOf i).toNat)
  case atStart => exact ⟨0, by omega, by omega, rfl, by simp only [turns, mat0]; split <;> first | rfl | omega⟩
  case round =>
   obtain ⟨k, hk, hk', rfl, rfl⟩ := hrel
   obtain ⟨⟨b1, b2⟩, ⟨b3, b4⟩, ⟨b5, b6⟩, ⟨b7, b8⟩⟩ := turns_bd o k hk
   by_cases hlt : (k : Int) < o % 6
   ·go_wp2
    go_roundw
    case rel => exact ⟨k + 1, by omega, by omega, by go_num, by simp [turns, turnM]⟩
    case measure => simp [intOf]; omega
   ·go_wp2
    have hk2 : k = (o % 6).toNat := by omega
    exact bodyPost_ret (v := .agg #[.int .i64 (turns o k).1, .int .i64 (turns o k).2.1, .int .i64 (turns o k).2.2.1, .int .i64 (turns o k).2.2.2]) (by simp [results, Tryd.results107, go_sem]) rfl ⟨by rw [← hk2]; rfl, (by with_reducible repeat (first | apply below_alloc | apply pw_below_drewN | apply below_drew | refine bset ?_ _ _ (by omega) _ | exact Below.refl _ _))⟩
def sixI : List Int := [1, 0, 0, 1, -1, 1, -1, 0, 0, -1, 1, -1]
def sixV : List Value := sixI.map (Value.int .i64)
structure Six (w : World) : Prop where
 sz : 0 < w.heap.size
 at_ : ∀ j v, sixV[j]? = some v → w.cell? ⟨0, j, none⟩ = some v
theorem Six.below {w w' : World} (h : Six w) (hb : Below w.heap.size w w') : Six w' :=
 ⟨Nat.lt_of_lt_of_le h.sz hb.size, fun j v hv => (hb.cell (p := ⟨0, j, none⟩) h.sz).trans (h.at_ j v hv)⟩
theorem Six.cells {w : World} (h : Six w) : w.cell? ⟨0, 0, none⟩ = some (.int .i64 1) ∧ w.cell? ⟨0, 1, none⟩ = some (.int .i64 0) ∧ w.cell? ⟨0, 2, none⟩ = some (.int .i64 0) ∧ w.cell? ⟨0, 3, none⟩ = some (.int .i64 1) ∧ w.cell? ⟨0, 4, none⟩ = some (.int .i64 (-1)) ∧ w.cell? ⟨0, 5, none⟩ = some (.int .i64 1) ∧ w.cell? ⟨0, 6, none⟩ = some (.int .i64 (-1)) ∧ w.cell? ⟨0, 7, none⟩ = some (.int .i64 0) ∧ w.cell? ⟨0, 8, none⟩ = some (.int .i64 0) ∧ w.cell? ⟨0, 9, none⟩ = some (.int .i64 (-1)) ∧ w.cell? ⟨0, 10, none⟩ = some (.int .i64 1) ∧ w.cell? ⟨0, 11, none⟩ = some (.int .i64 (-1)) :=
 ⟨h.at_ 0 _ rfl, h.at_ 1 _ rfl, h.at_ 2 _ rfl, h.at_ 3 _ rfl, h.at_ 4 _ rfl, h.at_ 5 _ rfl, h.at_ 6 _ rfl, h.at_ 7 _ rfl, h.at_ 8 _ rfl, h.at_ 9 _ rfl, h.at_ 10 _ rfl, h.at_ 11 _ rfl⟩
def sixVal : Value := .agg #[.int .i64 1, .int .i64 0, .int .i64 0, .int .i64 1, .int .i64 (-1), .int .i64 1, .int .i64 (-1), .int .i64 0, .int .i64 0, .int .i64 (-1), .int .i64 1, .int .i64 (-1)]
theorem six_any (w : World) (h : Six w) :
    Calls Tryd.prog 32 #[] w fun e w' => e = .returned sixVal ∧ Below w.heap.size w w' := by
 have hr := fun o => (h.below ((Below.refl _ _).alloc (Nat.le_refl _) o)).cells
 have c0 := fun o => (hr o).1
 have c1 := fun o => (hr o).2.1
 have c2 := fun o => (hr o).2.2.1
 have c3 := fun o => (hr o).2.2.2.1
 have c4 := fun o => (hr o).2.2.2.2.1
 have c5 := fun o => (hr o).2.2.2.2.2.1
 have c6 := fun o => (hr o).2.2.2.2.2.2.1
 have c7 := fun o => (hr o).2.2.2.2.2.2.2.1
 have c8 := fun o => (hr o).2.2.2.2.2.2.2.2.1
 have c9 := fun o => (hr o).2.2.2.2.2.2.2.2.2.1
 have c10 := fun o => (hr o).2.2.2.2.2.2.2.2.2.2.1
 have c11 := fun o => (hr o).2.2.2.2.2.2.2.2.2.2.2
 clear hr
 go_enter Tryd.func32, Tryd.ntmps32
 go_wp2
 exact bodyPost_ret (v := sixVal) (by simp [sixVal, results, Tryd.results32, go_sem]) rfl ⟨rfl, (by with_reducible repeat (first | apply below_alloc | apply pw_below_drewN | apply below_drew | refine bset ?_ _ _ (by omega) _ | exact Below.refl _ _))⟩
section
open Go.ChangeShapes Go.WideShapes Go.ChangeAt
theorem ownP : ownKnob Tryd.prog.godebug = none := by kernel_rfl
theorem sixN : Tryd.prog.globalNamed "honeycomb/axis.six" = some 0 := by kernel_rfl
theorem sixT : (Tryd.prog.globals[0]?).map (·.type) = some 69 := by kernel_rfl
theorem cellsSix : Tryd.prog.cellsOf 69 = 12 := by kernel_rfl
theorem cellsPt : Tryd.prog.cellsOf 63 = 2 := by kernel_rfl
theorem cellsI64 : Tryd.prog.cellsOf 2 = 1 := by kernel_rfl
theorem point_of_trod {w : World} {fuel : Nat} {c0 c1 : Value} {x y : Int} {p : List MemPlace} (h : DataW.trod (fun _ => ()) Tryd.prog w 0 (fun _ => true) false fuel 63 [c0, c1] = some (.agg [.lit (.int .i64 x), .lit (.int .i64 y)], p)) : c0 = .int .i64 x ∧ c1 = .int .i64 y := by
 obtain ⟨xs, n, _, hx, _, hl, hf⟩ := DataW.trod_struct Tryd.underlying63 h
 have f0 := hf 0 _ rfl
 have f1 := hf 1 _ rfl
 obtain ⟨y0, y1, rfl⟩ : ∃ y0 y1, xs = [y0, y1] := by
  match xs, hl with
  | [a, b], _ => exact ⟨a, b, rfl⟩
 simp [cellsI64] at f0 f1
 obtain ⟨n0, e0, rfl, _⟩ := DataW.trod_int Tryd.underlying2 f0
 obtain ⟨n1, e1, rfl, _⟩ := DataW.trod_int Tryd.underlying2 f1
 simp at hx e0 e1
 obtain ⟨⟨rfl, rfl⟩, _⟩ := hx
 exact ⟨e0, e1⟩
theorem six_of_vars {W : World} {ps : List MemPlace} {rest : List (String × DataW Unit)} (h : DataW.LaidVars Tryd.prog W (("honeycomb/axis.six", Rows.laid_honeycomb_axis_six) :: rest) ps) : Six W := by
 obtain ⟨g, t, cs, fuel, p, q, hg, ht, hvar, hd, _, _⟩ := h
 obtain rfl := Option.some.inj (sixN.symm.trans hg)
 obtain rfl := Option.some.inj (sixT.symm.trans ht)
 obtain ⟨xs, n, _, hx, hcl, hl, hf⟩ := DataW.trod_array Tryd.underlying69 hd
 rw [cellsSix] at hcl
 obtain ⟨l⟩ := cs
 change l.length = 12 at hcl
 obtain ⟨c0, c1, c2, c3, c4, c5, c6, c7, c8, c9, c10, c11, rfl⟩ : ∃ c0 c1 c2 c3 c4 c5 c6 c7 c8 c9 c10 c11, l = [c0, c1, c2, c3, c4, c5, c6, c7, c8, c9, c10, c11] := by
  match l, hcl with
  | [a, b, c, d, e, f, g, h, i, j, k, l], _ => exact ⟨a, b, c, d, e, f, g, h, i, j, k, l, rfl⟩
 obtain ⟨y0, y1, y2, y3, y4, y5, rfl⟩ : ∃ y0 y1 y2 y3 y4 y5, xs = [y0, y1, y2, y3, y4, y5] := by
  match xs, hl with
  | [a, b, c, d, e, f], _ => exact ⟨a, b, c, d, e, f, rfl⟩
 simp only [Rows.laid_honeycomb_axis_six, Prod.mk.injEq, DataW.agg.injEq, List.map_cons, List.map_nil, List.cons.injEq, and_true] at hx
 obtain ⟨⟨e0, e1, e2, e3, e4, e5⟩, _⟩ := hx
 have key : ∀ (i : Nat) (a b : Value) (y : DataW Unit × List MemPlace) (u v : Int), i < 6 → (([c0, c1, c2, c3, c4, c5, c6, c7, c8, c9, c10, c11].drop (i * 2)).take 2) = [a, b] → ([y0, y1, y2, y3, y4, y5] : List _)[i]? = some y → .agg [.lit (.int .i64 u), .lit (.int .i64 v)] = y.1 → a = .int .i64 u ∧ b = .int .i64 v := by
  intro i a b y u v hi hab hy hd1
  have := hf i hi
  rw [cellsPt, hab, hy] at this
  obtain ⟨y1', y2'⟩ := y
  change _ = y1' at hd1
  subst hd1
  exact point_of_trod this
 obtain ⟨rfl, rfl⟩ := key 0 c0 c1 y0 1 0 (by omega) rfl rfl e0
 obtain ⟨rfl, rfl⟩ := key 1 c2 c3 y1 0 1 (by omega) rfl rfl e1
 obtain ⟨rfl, rfl⟩ := key 2 c4 c5 y2 (-1) 1 (by omega) rfl rfl e2
 obtain ⟨rfl, rfl⟩ := key 3 c6 c7 y3 (-1) 0 (by omega) rfl rfl e3
 obtain ⟨rfl, rfl⟩ := key 4 c8 c9 y4 0 (-1) (by omega) rfl rfl e4
 obtain ⟨rfl, rfl⟩ := key 5 c10 c11 y5 1 (-1) (by omega) rfl rfl e5
 have hcell := fun i => World.var?_cell sixN hvar i
 refine ⟨?_, fun j v hj => ?_⟩
 ·have := hcell 0
  exact World.block_lt_of_cell? W ⟨0, 0, none⟩ (by simpa using this)
 ·have := hcell j
  rw [this]
  simpa [sixV, sixI] using hj
def laid1 : List (String × DataW Unit) := [("honeycomb/axis.six", Rows.laid_honeycomb_axis_six)]
theorem six_of_laid {W : World} (h : laidMetH Tryd.prog laid1 W) : Six W := by
 have h' : laidMet Tryd.prog laid1 W := h
 obtain ⟨ps, hv, _⟩ := h'
 exact six_of_vars hv
theorem door_met (os : Os) (args : Array Value) : laidMetH Tryd.prog laid1 ((World.doorLaid Tryd.prog 27 os).forCall (fun _ _ => 0) ⟨#[], args, []⟩).memory :=
 laidMetH_of_parts3 (fuel := 8) (laidMet_of_run' 8 (by kernel_rfl) (by kernel_rfl)) (by kernel_rfl) (by kernel_rfl)
section
variable {H : Type} {enc : TypeId × Value → H} {w : World} {base : Nat} {spare : Nat → Bool} {held : Bool}
end
end
section
open Go.ChangeShapes Go.WideShapes Go.ChangeAt
section
variable {H : Type} {enc : TypeId × Value → H} {w : World} {base : Nat} {spare : Nat → Bool} {held : Bool}
theorem cellsRaw : Tryd.prog.cellsOf 25 = 5 := by kernel_rfl
theorem cellsU2 : Tryd.prog.cellsOf 23 = 2 := by kernel_rfl
theorem cellsU64 : Tryd.prog.cellsOf 22 = 1 := by kernel_rfl
theorem cellsI : Tryd.prog.cellsOf 3 = 1 := by kernel_rfl
theorem open_u2 {fuel : Nat} {c0 c1 : Value} {x : DataW H × List MemPlace} (h : DataW.trod enc Tryd.prog w base spare held fuel 23 [c0, c1] = some x) :
    ∃ a b : Int, c0 = .int .u64 a ∧ c1 = .int .u64 b ∧ x = (.agg [.lit (.int .u64 a), .lit (.int .u64 b)], []) ∧ (Lit.int .u64 a).wf = true ∧ (Lit.int .u64 b).wf = true := by
 obtain ⟨zs, m, _, hz, _, hzl, hgg⟩ := DataW.trod_array Tryd.underlying23 h
 obtain ⟨z0, z1, rfl⟩ : ∃ z0 z1, zs = [z0, z1] := by
  match zs, hzl with
  | [x, y], _ => exact ⟨x, y, rfl⟩
 have g0 := hgg 0 (by decide)
 have g1 := hgg 1 (by decide)
 simp [cellsU64] at g0 g1
 obtain ⟨a, e0, rfl, wa⟩ := DataW.trod_int Tryd.underlying22 g0
 obtain ⟨b, e1, rfl, wb⟩ := DataW.trod_int Tryd.underlying22 g1
 simp at e0 e1 hz
 exact ⟨a, b, e0, e1, hz, wa, wb⟩
theorem open_raw {r : Reach} {b0 : Nat} {v : Value} {d : DataW H} {p : List MemPlace} (hv : Value.okWide Tryd.prog w r b0 25 v) (h : DataW.Trod enc Tryd.prog w base spare held 25 v d p) :
    ∃ l a b c e : Int, v = .agg #[.int .i64 l, .int .u64 a, .int .u64 b, .int .u64 c, .int .u64 e] ∧ d = .agg [.lit (.int .i64 l), .agg [.lit (.int .u64 a), .lit (.int .u64 b)], .agg [.lit (.int .u64 c), .lit (.int .u64 e)]] ∧ p = [] ∧
     (Lit.int .i64 l).wf = true ∧ (Lit.int .u64 a).wf = true ∧ (Lit.int .u64 b).wf = true ∧ (Lit.int .u64 c).wf = true ∧ (Lit.int .u64 e).wf = true := by
 obtain ⟨cs, rfl, hsz⟩ := okWide_struct Tryd.underlying25 hv
 obtain ⟨l⟩ := cs
 have hl : l.length = 5 := by rw [cellsRaw] at hsz; simpa using hsz
 obtain ⟨c0, c1, c2, c3, c4, rfl⟩ : ∃ c0 c1 c2 c3 c4, l = [c0, c1, c2, c3, c4] := by
  match l, hl with
  | [x, y, z, u, v], _ => exact ⟨x, y, z, u, v, rfl⟩
 obtain ⟨fuel, hf⟩ := h
 obtain ⟨xs, n, _, hx, _, hxl, hff⟩ := DataW.trod_struct Tryd.underlying25 hf
 obtain ⟨y0, y1, y2, rfl⟩ : ∃ y0 y1 y2, xs = [y0, y1, y2] := by
  match xs, hxl with
  | [x, y, z], _ => exact ⟨x, y, z, rfl⟩
 have f0 := hff 0 _ rfl
 have f1 := hff 1 _ rfl
 have f2 := hff 2 _ rfl
 simp [Value.cells, cellsU2, cellsI] at f0 f1 f2
 obtain ⟨l, e0, rfl, wl⟩ := DataW.trod_int Tryd.underlying3 f0
 obtain ⟨a, b, rfl, rfl, rfl, wa, wb⟩ := open_u2 f1
 obtain ⟨c, e, rfl, rfl, rfl, wc, we⟩ := open_u2 f2
 simp at e0 hx
 subst e0
 obtain ⟨rfl, rfl⟩ := hx
 exact ⟨l, a, b, c, e, rfl, rfl, rfl, wl, wa, wb, wc, we⟩
theorem shut_u2 {a b : Int} (n : Nat) (wa : (Lit.int .u64 a).wf = true) (wb : (Lit.int .u64 b).wf = true) :
    DataW.trod enc Tryd.prog w base spare held (n + 2) 23 [.int .u64 a, .int .u64 b] = some (.agg [.lit (.int .u64 a), .lit (.int .u64 b)], []) := by
 rw [DataW.trod_step]
 unfold DataW.trodStep
 simp only [Tryd.underlying23]
 rw [if_pos (by rw [cellsU2]; rfl), show List.range 2 = [0, 1] from rfl, List.mapM_cons, List.mapM_cons, List.mapM_nil]
 simp [cellsU64, DataW.trod, Tryd.underlying22, wa, wb]
theorem shut_raw {l a b c e : Int} (wl : (Lit.int .i64 l).wf = true) (wa : (Lit.int .u64 a).wf = true) (wb : (Lit.int .u64 b).wf = true) (wc : (Lit.int .u64 c).wf = true) (we : (Lit.int .u64 e).wf = true) :
    DataW.Trod enc Tryd.prog w base spare held 25 (.agg #[.int .i64 l, .int .u64 a, .int .u64 b, .int .u64 c, .int .u64 e]) (.agg [.lit (.int .i64 l), .agg [.lit (.int .u64 a), .lit (.int .u64 b)], .agg [.lit (.int .u64 c), .lit (.int .u64 e)]]) [] := by
 have tl : DataW.trod enc Tryd.prog w base spare held 2 3 [.int .i64 l] = some (.lit (.int .i64 l), []) := by
  simp [DataW.trod, Tryd.underlying3, wl]
 have t1 := shut_u2 (enc := enc) (w := w) (base := base) (spare := spare) (held := held) 0 wa wb
 have t2 := shut_u2 (enc := enc) (w := w) (base := base) (spare := spare) (held := held) 0 wc we
 have := Go.ChangeShapes.trod_struct_mk (enc := enc) (w := w) (base := base) (spare := spare) (held := held) (n := 2) (cs := [.int .i64 l, .int .u64 a, .int .u64 b, .int .u64 c, .int .u64 e])
  (xs := [(.lit (.int .i64 l), []), (.agg [.lit (.int .u64 a), .lit (.int .u64 b)], []), (.agg [.lit (.int .u64 c), .lit (.int .u64 e)], [])]) Tryd.underlying25 (by rw [cellsRaw]; rfl) (by simp [cellsI, cellsU2, tl, t1, t2])
 exact ⟨3, this⟩
theorem u64_rng {a : Int} (h : (Lit.int .u64 a).wf = true) : 0 ≤ a ∧ a < 18446744073709551616 := by
 simp [Lit.wf, IntKind.min, IntKind.max, IntKind.signed, IntKind.bits] at h
 omega
end
end
end Go.Proofs.YtaeenefdbahfoaaDoor
namespace Go.Proofs.YtaeenefdbahfoaaDoorW.PrintLast
set_option linter.unusedSimpArgs false
set_option linter.unusedVariables false
open Go.Proofs.YtaeenefdbahfoaaDoorW.PrintWords (Aside0)
def needsOf (md : Region.Mode) (o : Oper) : List Nat := (o.after.toList.filter (fun e => Region.binds md e)).map (fun e => e.on)
def clashOf (md : Region.Mode) (ops : Array Oper) (i : Nat) (oi : Oper) : List Nat := (List.range ops.size).filter fun j => !(j == i) && match ops[j]? with
 | some oj => !(oj.after.any (fun e => Region.binds md e && e.on == i) || oi.apart ops oj)
 | none => false
def rtab (md : Region.Mode) (ops : Array Oper) : Bool × List (List Nat × List Nat) := (Region.noSelect ops, (List.range ops.size).map fun i => match ops[i]? with
 | some o => (needsOf md o, clashOf md ops i o)
 | none => ([], []))
def readyAt (T : List (List Nat × List Nat)) (l : List Bool) (i : Nat) : Bool := !l.getD i true && match T[i]? with
 | some r => r.1.all (fun j => l.getD j false)
 | none => false
def readyT (T : List (List Nat × List Nat)) (l : List Bool) : List Nat := (List.range T.length).filter (readyAt T l)
def freeT (T : List (List Nat × List Nat)) (l : List Bool) (i : Nat) : Bool := match T[i]? with
 | some r => r.2.all (fun j => l.getD j true)
 | none => false
def closedT (T : List (List Nat × List Nat)) (l : List Bool) : Bool := (List.range T.length).all fun j => !l.getD j false || match T[j]? with
 | some r => r.1.all (fun k => l.getD k false)
 | none => true
def reachT (T : List (List Nat × List Nat)) (i : Nat) : Nat → Nat → Bool
 | 0, _ => false
 | fuel + 1, d => match T[d]? with
  | some r => r.1.any fun j => j == i || reachT T i fuel j
  | none => false
def lastT (T : List (List Nat × List Nat)) (l : List Bool) (ds : List Nat) (i : Nat) : Bool := ds.all fun d => l.getD d true || reachT T i T.length d
section
variable {md : Region.Mode} {ops : Array Oper} {T : Bool × List (List Nat × List Nat)} {l l' li lj lk : Array Bool} {ds : List Nat} {i j k : Nat}
theorem gd (l : Array Bool) (j : Nat) (b : Bool) : l.getD j b = l.toList.getD j b := by simp [Array.getD_eq_getD_getElem?, List.getD_eq_getElem?_getD]
theorem needs_all (o : Oper) (p : Nat → Bool) : o.after.all (fun e => !Region.binds md e || p e.on) = (needsOf md o).all p := by
 unfold needsOf
 rw [← Array.all_toList]
 induction o.after.toList with
 | nil => rfl
 | cons e r ih =>
  rw [List.all_cons, ih, List.filter_cons]
  cases h : Region.binds md e <;> simp
theorem needs_any (o : Oper) (p : Nat → Bool) : o.after.any (fun e => Region.binds md e && p e.on) = (needsOf md o).any p := by
 unfold needsOf
 rw [← Array.any_toList]
 induction o.after.toList with
 | nil => rfl
 | cons e r ih =>
  rw [List.any_cons, ih, List.filter_cons]
  cases h : Region.binds md e <;> simp
theorem rtab_length : (rtab md ops).2.length = ops.size := by simp [rtab]
theorem rtab_some {o : Oper} (h : ops[i]? = some o) : (rtab md ops).2[i]? = some (needsOf md o, clashOf md ops i o) := by
 have hi := (Array.getElem?_eq_some_iff.1 h).1
 unfold rtab
 rw [List.getElem?_map, List.getElem?_range hi, Option.map_some, h]
theorem rtab_none (h : ops[i]? = none) : (rtab md ops).2[i]? = none := by
 have hi : ops.size ≤ i := Array.getElem?_eq_none_iff.1 h
 exact List.getElem?_eq_none (by rw [rtab_length]; exact hi)
theorem readyAt_eq : readyAt (rtab md ops).2 l.toList i = (!l.getD i true && ((ops[i]?).map (·.after.all fun e => !Region.binds md e || l.getD e.on false)).getD false) := by
 unfold readyAt
 rw [gd]
 cases h : ops[i]? with
 | none => rw [rtab_none h]; rfl
 | some o =>
  rw [rtab_some h]
  simp only [Option.map_some, Option.getD_some]
  rw [← needs_all]
  simp only [gd]
theorem ready_eq : Region.ready md ops l = readyT (rtab md ops).2 l.toList := by
 unfold Region.ready readyT
 rw [rtab_length]
 refine List.filter_congr (fun i _ => ?_)
 rw [readyAt_eq]
theorem free_eq : Region.free md ops l i = freeT (rtab md ops).2 l.toList i := by
 unfold Region.free freeT
 cases h : ops[i]? with
 | none => rw [rtab_none h]
 | some oi =>
  rw [rtab_some h]
  simp only [clashOf]
  rw [List.all_filter]
  congr 1
  funext j
  rw [gd]
  cases hj : ops[j]? with
  | none => cases (j == i) <;> cases (l.toList.getD j true) <;> simp
  | some oj =>
   cases (j == i) <;> cases (l.toList.getD j true) <;> cases (oj.after.any (fun e => Region.binds md e && e.on == i) || oi.apart ops oj) <;> simp_all
theorem closed_eq : Region.closedB md ops l = closedT (rtab md ops).2 l.toList := by
 unfold Region.closedB closedT
 rw [rtab_length]
 congr 1
 funext j
 rw [gd]
 cases h : ops[j]? with
 | none => rw [rtab_none h]
 | some o =>
  rw [rtab_some h]
  simp only
  rw [← needs_all]
  simp only [gd]
theorem reach_eq : ∀ (fuel d : Nat), Region.reachB md ops i fuel d = reachT (rtab md ops).2 i fuel d
 | 0, _ => rfl
 | fuel + 1, d => by
  unfold Region.reachB reachT
  cases h : ops[d]? with
  | none => rw [rtab_none h]
  | some o =>
   rw [rtab_some h]
   simp only
   rw [← needs_any]
   congr 1
   funext e
   rw [reach_eq fuel]
theorem last_eq : Region.lastB md ops l ds i = lastT (rtab md ops).2 l.toList ds i := by
 unfold Region.lastB lastT
 rw [rtab_length]
 congr 1
 funext d
 rw [gd, reach_eq]
theorem readyAt_mem (h : readyAt T.2 l.toList i = true) (hT : rtab md ops = T) : (Region.ready md ops l).contains i = true := by
 subst hT
 rw [ready_eq]
 unfold readyT
 rw [List.contains_iff_mem, List.mem_filter, List.mem_range]
 refine ⟨?_, h⟩
 unfold readyAt at h
 rw [Bool.and_eq_true] at h
 cases hq : (rtab md ops).2[i]? with
 | none => rw [hq] at h; simp at h
 | some r => exact (List.getElem?_eq_some_iff.1 hq).1
theorem set_of (h : (l.toList.set i true == l'.toList) = true) : (l.setIfInBounds i true == l') = true := by
 rw [beq_iff_eq] at h ⊢
 apply Array.ext'
 rw [Array.toList_setIfInBounds]
 exact h
def anyT (T : Bool × List (List Nat × List Nat)) (l l' : List Bool) (i : Nat) : Bool := T.1 && freeT T.2 l i && readyAt T.2 l i && (l.set i true == l')
theorem any_of (hT : rtab md ops = T) (h : anyT T l.toList l'.toList i = true) : anyB md ops l l' i = true := by
 simp only [anyT, Bool.and_eq_true] at h
 obtain ⟨⟨⟨h1, h2⟩, h3⟩, h4⟩ := h
 have h5 := readyAt_mem h3 hT
 have h6 := set_of h4
 subst hT
 simp only [anyB, Bool.and_eq_true]
 exact ⟨⟨⟨h1, by rw [free_eq]; exact h2⟩, h5⟩, h6⟩
def takeT (T : Bool × List (List Nat × List Nat)) (ds : List Nat) (l l' : List Bool) (i : Nat) : Bool := T.1 && freeT T.2 l i && readyAt T.2 l i && closedT T.2 l && lastT T.2 l ds i && (l.set i true == l')
theorem take_of (hT : rtab md ops = T) (h : takeT T ds l.toList l'.toList i = true) : takeB md ops ds l l' i = true := by
 simp only [takeT, Bool.and_eq_true] at h
 obtain ⟨⟨⟨⟨⟨h1, h2⟩, h3⟩, h4⟩, h5⟩, h6⟩ := h
 have h7 := readyAt_mem h3 hT
 have h8 := set_of h6
 subst hT
 simp only [takeB, Bool.and_eq_true]
 exact ⟨⟨⟨⟨⟨h1, by rw [free_eq]; exact h2⟩, h7⟩, by rw [closed_eq]; exact h4⟩, by rw [last_eq]; exact h5⟩, h8⟩
theorem one_of (hT : rtab md ops = T) (h : (readyT T.2 l.toList == [i] && l.toList.set i true == l'.toList) = true) : readyB md ops l l' i = true := by
 simp only [Bool.and_eq_true] at h
 obtain ⟨h1, h2⟩ := h
 subst hT
 simp only [readyB, Bool.and_eq_true]
 exact ⟨by rw [ready_eq]; exact h1, set_of h2⟩
theorem done_of (hT : rtab md ops = T) (h : (readyT T.2 l.toList == []) = true) : (Region.ready md ops l == []) = true := by
 subst hT
 rw [ready_eq]
 exact h
def upM (B : List Nat) (d : Nat) : List Nat → Nat
 | [] => 0
 | n :: r => (2 ^ n ||| (if n < d then B.getD n 0 else 0)) ||| upM B d r
def waitsOk (T : List (List Nat × List Nat)) (B : List Nat) : Bool := (List.range T.length).all fun d => match T[d]? with
 | some r => (B.getD d 0 ||| upM B d r.1) == upM B d r.1
 | none => false
theorem upM_bit {B : List Nat} {d i : Nat} : ∀ {ns : List Nat}, (upM B d ns).testBit i = true → ∃ n ∈ ns, n = i ∨ (n < d ∧ (B.getD n 0).testBit i = true)
 | [], h => by simp [upM] at h
 | n :: r, h => by
  unfold upM at h
  rw [Nat.testBit_or, Nat.testBit_or, Bool.or_eq_true, Bool.or_eq_true] at h
  rcases h with (h | h) | h
  ·rw [Nat.testBit_two_pow] at h
   exact ⟨n, List.mem_cons_self, .inl (by simpa using h)⟩
  ·by_cases hn : n < d
   ·rw [if_pos hn] at h
    exact ⟨n, List.mem_cons_self, .inr ⟨hn, h⟩⟩
   ·rw [if_neg hn] at h
    simp at h
  ·obtain ⟨m, hm, h2⟩ := upM_bit h
   exact ⟨m, List.mem_cons_of_mem _ hm, h2⟩
theorem reach_bit {T : List (List Nat × List Nat)} {B : List Nat} (hB : waitsOk T B = true) : ∀ (fuel d : Nat), d < fuel → d < T.length → (B.getD d 0).testBit i = true → reachT T i fuel d = true
 | 0, d, h, _, _ => by omega
 | fuel + 1, d, h, hd, hb => by
  have h1 := List.all_eq_true.1 hB d (List.mem_range.2 hd)
  cases hr : T[d]? with
  | none => rw [hr] at h1; simp at h1
  | some r =>
   rw [hr] at h1
   simp only [beq_iff_eq] at h1
   have h2 : (upM B d r.1).testBit i = true := by rw [← h1, Nat.testBit_or, hb, Bool.true_or]
   obtain ⟨n, hn, h3⟩ := upM_bit h2
   unfold reachT
   rw [hr]
   simp only
   rw [List.any_eq_true]
   refine ⟨n, hn, ?_⟩
   rcases h3 with rfl | ⟨h4, h5⟩
   ·simp
   ·rw [reach_bit hB fuel n (by omega) (by omega) h5, Bool.or_true]
def lastW (T : List (List Nat × List Nat)) (B : List Nat) (l : List Bool) (ds : List Nat) (i : Nat) : Bool := ds.all fun d => l.getD d true || (decide (d < T.length) && (B.getD d 0).testBit i)
def takeW (T : Bool × List (List Nat × List Nat)) (B : List Nat) (ds : List Nat) (l l' : List Bool) (i : Nat) : Bool := T.1 && freeT T.2 l i && readyAt T.2 l i && closedT T.2 l && lastW T.2 B l ds i && (l.set i true == l')
theorem take_ofW {B : List Nat} (hT : rtab md ops = T) (hB : waitsOk T.2 B = true) (h : takeW T B ds l.toList l'.toList i = true) : takeB md ops ds l l' i = true := by
 refine take_of hT ?_
 simp only [takeW, takeT, Bool.and_eq_true] at h ⊢
 obtain ⟨⟨⟨⟨⟨h1, h2⟩, h3⟩, h4⟩, h5⟩, h6⟩ := h
 refine ⟨⟨⟨⟨⟨h1, h2⟩, h3⟩, h4⟩, ?_⟩, h6⟩
 unfold lastW at h5
 unfold lastT
 rw [List.all_eq_true] at h5 ⊢
 intro d hd
 have h7 := h5 d hd
 rw [Bool.or_eq_true, Bool.and_eq_true, decide_eq_true_eq] at h7
 rcases h7 with h7 | ⟨h8, h9⟩
 ·rw [h7, Bool.true_or]
 ·rw [reach_bit hB _ d h8 h8 h9, Bool.or_true]
theorem with_tabW {P : Program} {Q : Exit → Act → World → Prop} {S : World → Prop} {n : Nat} {a : Act} {w : World} {B : List Nat} (hT : rtab md ops = T) (hB : waitsOk T.2 B = true) (h : Aside0 (rtab md ops = T) → Aside0 (waitsOk T.2 B = true) → wpAnyLast P md ops Q S ds n l a w) : wpAnyLast P md ops Q S ds n l a w := h ⟨hT⟩ ⟨hB⟩
end
def opsIn : Code → Nat → Option (Array Oper)
 | .region id ops _, k => if id == k then some ops else none
 | .seq a b, k => match opsIn a k with
  | some o => some o
  | none => opsIn b k
 | .cond _ a b, k => match opsIn a k with
  | some o => some o
  | none => opsIn b k
 | .block _ c, k => opsIn c k
 | .loop c, k => opsIn c k
 | .scope c, k => opsIn c k
 | .rangeFunc _ _ a b, k => match opsIn a k with
  | some o => some o
  | none => opsIn b k
 | _, _ => none
def opsOf (f : Func) (k : Nat) : Array Oper := ((f.body.bind fun c => opsIn c k)).getD #[]
end Go.Proofs.YtaeenefdbahfoaaDoorW.PrintLast
namespace Go.Proofs.YtaeenefdbahfoaaDoorW.PrintWords
set_option linter.unusedSimpArgs false
set_option linter.unusedVariables false
open Go.RowKit
section
variable {P : Program} {d : Nat} {xs ys : Array Value} {f : Field} {fs : List Field} {a b : Value} {r s : Bool} {w : World}
theorem eqf_last (hn : (f.name == "_") = false) (ha : (part f.type xs f.offset).run P w = .ok a w) (hb : (part f.type ys f.offset).run P w = .ok b w) (he : (Op.equalIn d f.type a b).run P w = .ok r w) : (Op.eqFields d xs ys [f]).run P w = .ok r w := by
 have hn' : f.name ≠ "_" := by simpa using hn
 simp only [Op.eqFields, if_pos hn', Sem.run_bind, ha, hb, he, Result.andThen_ok]
 cases r <;> simp
theorem eqf_cons (hn : (f.name == "_") = false) (ha : (part f.type xs f.offset).run P w = .ok a w) (hb : (part f.type ys f.offset).run P w = .ok b w) (he : (Op.equalIn d f.type a b).run P w = .ok r w) (hr : (Op.eqFields d xs ys fs).run P w = .ok s w) : (Op.eqFields d xs ys (f :: fs)).run P w = .ok (r && s) w := by
 have hn' : f.name ≠ "_" := by simpa using hn
 rw [Op.eqFields]
 simp only [if_pos hn', Sem.run_bind, ha, hb, he, Result.andThen_ok]
 cases r
 ·simp
 ·simpa using hr
theorem eqA_of {t : TypeId} {fs : Array Field} (hu : P.underlying t = some (.struct fs)) (hp : P.stoodInHeld t = false) (h : (Op.eqFields d xs ys fs.toList).run P w = .ok r w) : (Op.equalIn (d + 1) t (.agg xs) (.agg ys)).run P w = .ok r w := by
 have hf : P.fieldsOf t = fs := by simp [Program.fieldsOf, hu]
 rw [run_equalIn_struct (P := P) w d t xs ys (by rw [hf]; exact hu) hp, hf]
 exact h
end
end Go.Proofs.YtaeenefdbahfoaaDoorW.PrintWords
namespace Go.Proofs.YtaeenefdbahfoaaDoorW.PrintWords
set_option linter.unusedSimpArgs false
set_option linter.unusedVariables false
theorem Reps.one {α : Type} {R : α → List Value → Prop} {ps : List α} {cs : List Value} {p : α} {v : Value} (hp : R p [v]) (h : Reps R 1 ps cs) : Reps R 1 (p :: ps) (v :: cs) := by
 refine ⟨by simp [h.1], fun j q hq => ?_⟩
 cases j with
 | zero =>
  simp only [List.getElem?_cons_zero, Option.some.injEq] at hq
  subst hq
  simpa using hp
 | succ j =>
  simp only [List.getElem?_cons_succ] at hq
  have h1 := h.2 j q hq
  simpa [Nat.mul_one] using h1
theorem Reps.front {α : Type} {R : α → List Value → Prop} {size : Nat} {ps : List α} {cs c all : List Value} {p : α} (hp : R p c) (hc : c.length = size) (h : Reps R size ps cs) (ha : c ++ cs = all) : Reps R size (p :: ps) all := by
 subst ha
 refine ⟨by rw [List.length_append, hc, h.1, List.length_cons, Nat.succ_mul, Nat.add_comm], fun j q hq => ?_⟩
 cases j with
 | zero =>
  simp only [List.getElem?_cons_zero, Option.some.injEq] at hq
  subst hq
  rw [Nat.zero_mul, List.drop_zero, List.take_append_of_le_length (by omega), List.take_of_length_le (by omega)]
  exact hp
 | succ j =>
  simp only [List.getElem?_cons_succ] at hq
  have h1 := h.2 j q hq
  rw [Nat.succ_mul, List.drop_append, List.drop_of_length_le (by rw [hc]; exact Nat.le_add_left _ _), List.nil_append, hc, Nat.add_sub_cancel]
  exact h1
theorem Reps.c2 {α : Type} {R : α → List Value → Prop} {ps : List α} {cs : List Value} {p : α} {va vb : Value} (hp : R p [va, vb]) (h : Reps R 2 ps cs) : Reps R 2 (p :: ps) (va :: vb :: cs) := Reps.front hp rfl h rfl
theorem Reps.c3 {α : Type} {R : α → List Value → Prop} {ps : List α} {cs : List Value} {p : α} {va vb vc : Value} (hp : R p [va, vb, vc]) (h : Reps R 3 ps cs) : Reps R 3 (p :: ps) (va :: vb :: vc :: cs) := Reps.front hp rfl h rfl
theorem Reps.c4 {α : Type} {R : α → List Value → Prop} {ps : List α} {cs : List Value} {p : α} {va vb vc vd : Value} (hp : R p [va, vb, vc, vd]) (h : Reps R 4 ps cs) : Reps R 4 (p :: ps) (va :: vb :: vc :: vd :: cs) := Reps.front hp rfl h rfl
theorem Reps.c5 {α : Type} {R : α → List Value → Prop} {ps : List α} {cs : List Value} {p : α} {va vb vc vd ve : Value} (hp : R p [va, vb, vc, vd, ve]) (h : Reps R 5 ps cs) : Reps R 5 (p :: ps) (va :: vb :: vc :: vd :: ve :: cs) := Reps.front hp rfl h rfl
theorem Reps.c6 {α : Type} {R : α → List Value → Prop} {ps : List α} {cs : List Value} {p : α} {va vb vc vd ve vf : Value} (hp : R p [va, vb, vc, vd, ve, vf]) (h : Reps R 6 ps cs) : Reps R 6 (p :: ps) (va :: vb :: vc :: vd :: ve :: vf :: cs) := Reps.front hp rfl h rfl
theorem Reps.c7 {α : Type} {R : α → List Value → Prop} {ps : List α} {cs : List Value} {p : α} {va vb vc vd ve vf vg : Value} (hp : R p [va, vb, vc, vd, ve, vf, vg]) (h : Reps R 7 ps cs) : Reps R 7 (p :: ps) (va :: vb :: vc :: vd :: ve :: vf :: vg :: cs) := Reps.front hp rfl h rfl
theorem Reps.c8 {α : Type} {R : α → List Value → Prop} {ps : List α} {cs : List Value} {p : α} {va vb vc vd ve vf vg vh : Value} (hp : R p [va, vb, vc, vd, ve, vf, vg, vh]) (h : Reps R 8 ps cs) : Reps R 8 (p :: ps) (va :: vb :: vc :: vd :: ve :: vf :: vg :: vh :: cs) := Reps.front hp rfl h rfl
theorem Reps.c9 {α : Type} {R : α → List Value → Prop} {ps : List α} {cs : List Value} {p : α} {va vb vc vd ve vf vg vh vi : Value} (hp : R p [va, vb, vc, vd, ve, vf, vg, vh, vi]) (h : Reps R 9 ps cs) : Reps R 9 (p :: ps) (va :: vb :: vc :: vd :: ve :: vf :: vg :: vh :: vi :: cs) := Reps.front hp rfl h rfl
theorem Reps.c10 {α : Type} {R : α → List Value → Prop} {ps : List α} {cs : List Value} {p : α} {va vb vc vd ve vf vg vh vi vj : Value} (hp : R p [va, vb, vc, vd, ve, vf, vg, vh, vi, vj]) (h : Reps R 10 ps cs) : Reps R 10 (p :: ps) (va :: vb :: vc :: vd :: ve :: vf :: vg :: vh :: vi :: vj :: cs) := Reps.front hp rfl h rfl
end Go.Proofs.YtaeenefdbahfoaaDoorW.PrintWords
namespace Go.Proofs.YtaeenefdbahfoaaDoor
def m_ (n k : Nat) : Array Bool := ((List.range n).map fun i => k.testBit i).toArray
open Go Go.RowKit Go.Proofs.YtaeenefdbahfoaaDoorW.PrintWords Go.Proofs.YtaeenefdbahfoaaDoorW.PrintLast Go.Proofs.YtaeenefdbahfoaaDoorW.PrintMore in
theorem pq_ {P : Program} {ops : Array Oper} {Q : Exit → Act → World → Prop} {md : Region.Mode} {S : World → Prop} {ds : List Nat} {oi : Oper} {fuel : Nat} {l : Array Bool} {a : Act} {w : World} {v : Value} {a' : Act} (i : Nat) (N : Option Tmp) (l' : Array Bool) (h1 : ops[i]? = some oi := by exact rfl) (h2 : oi.dst = N := by exact rfl) (h3 : anyB md ops l l' i = true := by exact any_of HT_.out (by kernel_rfl)) (h4 : ∀ (c : List PanicEntry) (a : Act) (w : World), Q (Exit.panic c) (a.put oi.dst v) w → Q (Exit.panic c) a w := by exact fun _ _ _ h => h) (h5 : Yields P ops oi v a := by refine Or.inl ⟨by rfl, ?_⟩; intro w'; go_simp; with_reducible rfl) (h6 : a.put N v = a' := by simp only [puts_]; rfl) (h : wpAnyLast P md ops Q S ds fuel l' a' w) : wpAnyLast P md ops Q S ds (fuel + 1) l a w := pure_ l' h1 h2 h3 h4 h5 h6 h
open Go Go.RowKit Go.Proofs.YtaeenefdbahfoaaDoorW.PrintWords Go.Proofs.YtaeenefdbahfoaaDoorW.PrintLast Go.Proofs.YtaeenefdbahfoaaDoorW.PrintMore in
theorem pu_ {P : Program} {ops : Array Oper} {Q : Exit → Act → World → Prop} {md : Region.Mode} {S : World → Prop} {ds : List Nat} {oi : Oper} {fuel : Nat} {l : Array Bool} {a : Act} {w : World} {a' : Act} (i : Nat) (N : Option Tmp) (l' : Array Bool) (h1 : ops[i]? = some oi := by exact rfl) (h2 : oi.dst = N := by exact rfl) (h3 : anyB md ops l l' i = true := by exact any_of HT_.out (by kernel_rfl)) (h4 : ∀ (c : List PanicEntry) (a : Act) (w : World), Q (Exit.panic c) (a.put oi.dst undef) w → Q (Exit.panic c) a w := by exact fun _ _ _ h => h) (h5 : Yields P ops oi undef a := by exact Or.inr ⟨by rfl, rfl⟩) (h6 : a.put N undef = a' := by simp only [puts_]; rfl) (h : wpAnyLast P md ops Q S ds fuel l' a' w) : wpAnyLast P md ops Q S ds (fuel + 1) l a w := pure_ l' h1 h2 h3 h4 h5 h6 h
open Go Go.RowKit Go.Proofs.YtaeenefdbahfoaaDoorW.PrintWords Go.Proofs.YtaeenefdbahfoaaDoorW.PrintLast Go.Proofs.YtaeenefdbahfoaaDoorW.PrintMore in
theorem tq3_ {P : Program} {ops : Array Oper} {Q : Exit → Act → World → Prop} {md : Region.Mode} {S : World → Prop} {ds : List Nat} {oi : Oper} {fuel : Nat} {l : Array Bool} {a : Act} {w : World} {v : Value} {a' : Act} (i : Nat) (N : Option Tmp) (l' : Array Bool) (h1 : ops[i]? = some oi := by exact rfl) (h2 : oi.dst = N := by exact rfl) (h3 : takeB md ops ds l l' i = true := by exact take_ofW HT_.out HW_.out (by kernel_rfl)) (h4 : ∀ (c : List PanicEntry) (a : Act) (w : World), Q (Exit.panic c) (a.put oi.dst v) w → Q (Exit.panic c) a w := by exact fun _ _ _ h => h) (h5 : YieldsIf P ops S oi v a := by refine Or.inl ⟨by rfl, ?_⟩; rintro w' ⟨s0, s1, s2⟩; go_simp; with_reducible rfl) (hs : S w := by exact hHeld) (h6 : a.put N v = a' := by simp only [puts_]; rfl) (h : wpAnyLast P md ops Q S ds fuel l' a' w) : wpAnyLast P md ops Q S ds (fuel + 1) l a w := take_ l' h1 h2 h3 h4 h5 hs h6 h
open Go Go.RowKit Go.Proofs.YtaeenefdbahfoaaDoorW.PrintWords Go.Proofs.YtaeenefdbahfoaaDoorW.PrintLast Go.Proofs.YtaeenefdbahfoaaDoorW.PrintMore in
theorem tq5_ {P : Program} {ops : Array Oper} {Q : Exit → Act → World → Prop} {md : Region.Mode} {S : World → Prop} {ds : List Nat} {oi : Oper} {fuel : Nat} {l : Array Bool} {a : Act} {w : World} {v : Value} {a' : Act} (i : Nat) (N : Option Tmp) (l' : Array Bool) (h1 : ops[i]? = some oi := by exact rfl) (h2 : oi.dst = N := by exact rfl) (h3 : takeB md ops ds l l' i = true := by exact take_ofW HT_.out HW_.out (by kernel_rfl)) (h4 : ∀ (c : List PanicEntry) (a : Act) (w : World), Q (Exit.panic c) (a.put oi.dst v) w → Q (Exit.panic c) a w := by exact fun _ _ _ h => h) (h5 : YieldsIf P ops S oi v a := by refine Or.inl ⟨by rfl, ?_⟩; rintro w' ⟨s0, s1, s2, s3, s4⟩; go_simp; with_reducible rfl) (hs : S w := by exact hHeld) (h6 : a.put N v = a' := by simp only [puts_]; rfl) (h : wpAnyLast P md ops Q S ds fuel l' a' w) : wpAnyLast P md ops Q S ds (fuel + 1) l a w := take_ l' h1 h2 h3 h4 h5 hs h6 h
open Go Go.RowKit Go.Proofs.YtaeenefdbahfoaaDoorW.PrintWords Go.Proofs.YtaeenefdbahfoaaDoorW.PrintLast Go.Proofs.YtaeenefdbahfoaaDoorW.PrintMore in
theorem tq6_ {P : Program} {ops : Array Oper} {Q : Exit → Act → World → Prop} {md : Region.Mode} {S : World → Prop} {ds : List Nat} {oi : Oper} {fuel : Nat} {l : Array Bool} {a : Act} {w : World} {v : Value} {a' : Act} (i : Nat) (N : Option Tmp) (l' : Array Bool) (h1 : ops[i]? = some oi := by exact rfl) (h2 : oi.dst = N := by exact rfl) (h3 : takeB md ops ds l l' i = true := by exact take_ofW HT_.out HW_.out (by kernel_rfl)) (h4 : ∀ (c : List PanicEntry) (a : Act) (w : World), Q (Exit.panic c) (a.put oi.dst v) w → Q (Exit.panic c) a w := by exact fun _ _ _ h => h) (h5 : YieldsIf P ops S oi v a := by refine Or.inl ⟨by rfl, ?_⟩; rintro w' ⟨s0, s1, s2, s3, s4, s5⟩; go_simp; with_reducible rfl) (hs : S w := by exact hHeld) (h6 : a.put N v = a' := by simp only [puts_]; rfl) (h : wpAnyLast P md ops Q S ds fuel l' a' w) : wpAnyLast P md ops Q S ds (fuel + 1) l a w := take_ l' h1 h2 h3 h4 h5 hs h6 h
open Go Go.RowKit Go.Proofs.YtaeenefdbahfoaaDoorW.PrintWords Go.Proofs.YtaeenefdbahfoaaDoorW.PrintLast Go.Proofs.YtaeenefdbahfoaaDoorW.PrintMore in
theorem tq7_ {P : Program} {ops : Array Oper} {Q : Exit → Act → World → Prop} {md : Region.Mode} {S : World → Prop} {ds : List Nat} {oi : Oper} {fuel : Nat} {l : Array Bool} {a : Act} {w : World} {v : Value} {a' : Act} (i : Nat) (N : Option Tmp) (l' : Array Bool) (h1 : ops[i]? = some oi := by exact rfl) (h2 : oi.dst = N := by exact rfl) (h3 : takeB md ops ds l l' i = true := by exact take_ofW HT_.out HW_.out (by kernel_rfl)) (h4 : ∀ (c : List PanicEntry) (a : Act) (w : World), Q (Exit.panic c) (a.put oi.dst v) w → Q (Exit.panic c) a w := by exact fun _ _ _ h => h) (h5 : YieldsIf P ops S oi v a := by refine Or.inl ⟨by rfl, ?_⟩; rintro w' ⟨s0, s1, s2, s3, s4, s5, s6⟩; go_simp; with_reducible rfl) (hs : S w := by exact hHeld) (h6 : a.put N v = a' := by simp only [puts_]; rfl) (h : wpAnyLast P md ops Q S ds fuel l' a' w) : wpAnyLast P md ops Q S ds (fuel + 1) l a w := take_ l' h1 h2 h3 h4 h5 hs h6 h
open Go Go.RowKit Go.Proofs.YtaeenefdbahfoaaDoorW.PrintWords Go.Proofs.YtaeenefdbahfoaaDoorW.PrintLast Go.Proofs.YtaeenefdbahfoaaDoorW.PrintMore in
theorem tq10_ {P : Program} {ops : Array Oper} {Q : Exit → Act → World → Prop} {md : Region.Mode} {S : World → Prop} {ds : List Nat} {oi : Oper} {fuel : Nat} {l : Array Bool} {a : Act} {w : World} {v : Value} {a' : Act} (i : Nat) (N : Option Tmp) (l' : Array Bool) (h1 : ops[i]? = some oi := by exact rfl) (h2 : oi.dst = N := by exact rfl) (h3 : takeB md ops ds l l' i = true := by exact take_ofW HT_.out HW_.out (by kernel_rfl)) (h4 : ∀ (c : List PanicEntry) (a : Act) (w : World), Q (Exit.panic c) (a.put oi.dst v) w → Q (Exit.panic c) a w := by exact fun _ _ _ h => h) (h5 : YieldsIf P ops S oi v a := by refine Or.inl ⟨by rfl, ?_⟩; rintro w' ⟨s0, s1, s2, s3, s4, s5, s6, s7, s8, s9⟩; go_simp; with_reducible rfl) (hs : S w := by exact hHeld) (h6 : a.put N v = a' := by simp only [puts_]; rfl) (h : wpAnyLast P md ops Q S ds fuel l' a' w) : wpAnyLast P md ops Q S ds (fuel + 1) l a w := take_ l' h1 h2 h3 h4 h5 hs h6 h
end Go.Proofs.YtaeenefdbahfoaaDoor
namespace Go.Proofs.YtaeenefdbahfoaaDoor
open Go Go.RowKit Go.Proofs.YtaeenefdbahfoaaDoorW.PrintWords Go.Proofs.YtaeenefdbahfoaaDoorW.PrintLast Go.Proofs.YtaeenefdbahfoaaDoorW.PrintMore
theorem cz2_ {w : World} {g : Nat} {t : TypeId} {v0 v1 : Value} (h : w.heap[g]? = some (.cells #[v0, v1] t (0, 0))) : w.cell? ⟨g, 0, none⟩ = some v0 ∧ w.cell? ⟨g, 1, none⟩ = some v1 := ⟨(blk_cell h 0).trans rfl, (blk_cell h 1).trans rfl⟩
theorem cz3_ {w : World} {g : Nat} {t : TypeId} {v0 v1 v2 : Value} (h : w.heap[g]? = some (.cells #[v0, v1, v2] t (0, 0))) : w.cell? ⟨g, 0, none⟩ = some v0 ∧ w.cell? ⟨g, 1, none⟩ = some v1 ∧ w.cell? ⟨g, 2, none⟩ = some v2 := ⟨(blk_cell h 0).trans rfl, (blk_cell h 1).trans rfl, (blk_cell h 2).trans rfl⟩
theorem cz5_ {w : World} {g : Nat} {t : TypeId} {v0 v1 v2 v3 v4 : Value} (h : w.heap[g]? = some (.cells #[v0, v1, v2, v3, v4] t (0, 0))) : w.cell? ⟨g, 0, none⟩ = some v0 ∧ w.cell? ⟨g, 1, none⟩ = some v1 ∧ w.cell? ⟨g, 2, none⟩ = some v2 ∧ w.cell? ⟨g, 3, none⟩ = some v3 ∧ w.cell? ⟨g, 4, none⟩ = some v4 := ⟨(blk_cell h 0).trans rfl, (blk_cell h 1).trans rfl, (blk_cell h 2).trans rfl, (blk_cell h 3).trans rfl, (blk_cell h 4).trans rfl⟩
theorem fz2_ {w : World} {g : Nat} {t : TypeId} {cs : Array Value} (h : w.heap[g]? = some (.cells cs t (0, 0))) : w.frozen? ⟨g, 0, none⟩ = false ∧ w.frozen? ⟨g, 1, none⟩ = false := ⟨blk_frozen h 0, blk_frozen h 1⟩
theorem fz3_ {w : World} {g : Nat} {t : TypeId} {cs : Array Value} (h : w.heap[g]? = some (.cells cs t (0, 0))) : w.frozen? ⟨g, 0, none⟩ = false ∧ w.frozen? ⟨g, 1, none⟩ = false ∧ w.frozen? ⟨g, 2, none⟩ = false := ⟨blk_frozen h 0, blk_frozen h 1, blk_frozen h 2⟩
theorem fz5_ {w : World} {g : Nat} {t : TypeId} {cs : Array Value} (h : w.heap[g]? = some (.cells cs t (0, 0))) : w.frozen? ⟨g, 0, none⟩ = false ∧ w.frozen? ⟨g, 1, none⟩ = false ∧ w.frozen? ⟨g, 2, none⟩ = false ∧ w.frozen? ⟨g, 3, none⟩ = false ∧ w.frozen? ⟨g, 4, none⟩ = false := ⟨blk_frozen h 0, blk_frozen h 1, blk_frozen h 2, blk_frozen h 3, blk_frozen h 4⟩
theorem bb_ {g : Nat} {o : Obj} {w W W1 : World} (q : w.heap[g]? = some o) (hb : Below W.heap.size W W1) (h : w.heap[g]? = some o → W.heap[g]? = some o := by intro q_; (with_reducible repeat (first | apply bN_ | apply bD_ | apply bA_)); exact q_) : Aside0 (W1.heap[g]? = some o) := ⟨blk_below (h q) hb⟩
theorem ne1_ {g : Nat} {o : Obj} {w W : World} (q : w.heap[g]? = some o) (h : w.heap[g]? = some o → W.heap[g]? = some o := by intro q_; (with_reducible repeat (first | apply bN_ | apply bD_ | apply bA_)); exact q_) : g ≠ W.heap.size := Nat.ne_of_lt (blk_lt (h q))
theorem ne2_ {g : Nat} {o : Obj} {w W : World} (q : w.heap[g]? = some o) (h : w.heap[g]? = some o → W.heap[g]? = some o := by intro q_; (with_reducible repeat (first | apply bN_ | apply bD_ | apply bA_)); exact q_) : W.heap.size ≠ g := Nat.ne_of_gt (blk_lt (h q))
theorem bx_ {P : Program} {ops : Array Oper} {rest : List Oper} {o : Oper} {a : Act} {Q : Exit → Act → World → Prop} {W : World} (N : Tmp) (cs : Array Value) (t : TypeId) (k : ∀ (g : Nat), g = W.heap.size → ∀ (w1 : World), w1.heap[g]? = some (Obj.cells cs t) → Below W.heap.size W w1 → wpList P ops Q rest (a.put o.dst (Value.pointer (some ⟨g, 0, none⟩))) w1) (hg : o.guard = none := by rfl) (hd : o.dst = some N := by rfl) (hr : Sem.run P (execOp a.eval o) W = Result.ok (Next.value (Value.pointer (some ⟨W.heap.size, 0, none⟩))) (W.alloc (Obj.cells cs t)) := by first | (go_simp; done) | (go_simp; rfl)) : wpList P ops Q (o :: rest) a W := box_event hg hd hr k
theorem rl_ {P : Program} {ops : Array Oper} {rest : List Oper} {o : Oper} {a : Act} {Q : Exit → Act → World → Prop} {α : Type} (d : Kd α) {W : World} (e : Nat) (N : Tmp) (xs : List α) (inner : List Value) (k : ∀ (v1 : Value) (w1 : World), d.R e w1 W.heap.size (fun _ => True) v1 xs → Below W.heap.size W w1 → wpList P ops Q rest (a.put o.dst v1) w1) (hg : o.guard = none := by rfl) (hd : o.dst = some N := by rfl) (hr : Sem.run P (execOp a.eval o) W = Result.ok (Next.value (Value.slice (some ⟨W.heap.size, 0, none⟩) xs.length xs.length)) (W.alloc (Obj.cells inner.toArray e)) := by first | (go_simp; done) | (go_simp; rfl)) (hl : xs.length ≤ 9223372036854775807 := by simp) (hp : Reps (d.M W W.heap.size (fun _ => True)) d.sz xs inner := by repeat (first | exact Reps.none _ _ | refine Reps.one (by rfl) ?_)) : wpList P ops Q (o :: rest) a W := Kd.R_lit d W.heap.size e hg hd (ok := fun _ => True) (okp := fun _ => True) hr hp (fun _ hk => hk) trivial (Below.refl _ _) (Nat.le_refl _) hl (fun v1 w1 h1 h2 _ _ => k v1 w1 h1 h2)
theorem rs1_ {P : Program} {ops : Array Oper} {rest : List Oper} {o : Oper} {a : Act} {Q : Exit → Act → World → Prop} {α : Type} (d : Kd α) {W : World} (e : Nat) (N : Tmp) (xs : List α) (inner : List Value) (hp : Reps (d.M W W.heap.size (fun _ => True)) d.sz xs inner) (k : ∀ (v1 : Value) (w1 : World), d.R e w1 W.heap.size (fun _ => True) v1 xs → Below W.heap.size W w1 → wpList P ops Q rest (a.put o.dst v1) w1) (hg : o.guard = none := by rfl) (hd : o.dst = some N := by rfl) (hr : Sem.run P (execOp a.eval o) W = Result.ok (Next.value (Value.slice (some ⟨W.heap.size, 0, none⟩) xs.length xs.length)) (W.alloc (Obj.cells inner.toArray e)) := by first | (go_simp; done) | (go_simp; rfl)) (hl : xs.length ≤ 9223372036854775807 := by simp) : wpList P ops Q (o :: rest) a W := Kd.R_lit d W.heap.size e hg hd (ok := fun _ => True) (okp := fun _ => True) hr hp (fun _ hk => hk) trivial (Below.refl _ _) (Nat.le_refl _) hl (fun v1 w1 h1 h2 _ _ => k v1 w1 h1 h2)
end Go.Proofs.YtaeenefdbahfoaaDoor
namespace Go.Proofs.YtaeenefdbahfoaaDoor.H
open Go.RowKit Go.Proofs.YtaeenefdbahfoaaDoorW.PrintWords Go.Proofs.YtaeenefdbahfoaaDoorW.PrintLast Go.Proofs.YtaeenefdbahfoaaDoorW.PrintMore
attribute [local go_sem] max2_int min2_int max_two min_two max_three min_three max_four min_four   -- for this text's walks alone
set_option linter.unusedVariables false
set_option linter.unusedSimpArgs false
def errW : Option Int → Value
  | none => .nilIface
  | some c => .iface 87 (.int .i64 c)
theorem errW_none : errW none = .nilIface := rfl
theorem errW_some (c : Int) : errW (some c) = .iface 87 (.int .i64 c) := rfl
theorem info60 : (Tryd.prog.info? 60).map (fun i => (i.zero, i.size, i.bytes)) = some (some (.agg #[(.int .i64 0), (.int .i64 0), (.int .i64 0)]), 3, 24) := by kernel_rfl
theorem info65 : (Tryd.prog.info? 65).map (fun i => (i.zero, i.size, i.bytes)) = some (some (.agg #[(.int .i64 0), (.int .i64 0), (.int .i64 0)]), 3, 24) := by kernel_rfl
theorem info111 : (Tryd.prog.info? 111).map (fun i => (i.zero, i.size, i.bytes)) = some (some (.slice none 0 0), 1, 24) := by kernel_rfl
structure S23 where
  f0 : Int
  f1 : Int
def z23 : S23 := ⟨(0 : Int), (0 : Int)⟩
structure S29 where
  f0 : Int
  f1 : S23
  f2 : S23
structure S63 where
  f0 : Int
  f1 : Int
def z63 : S63 := ⟨(0 : Int), (0 : Int)⟩
def k63 : Kd S63 := Kd.iso (Kd.pair (Kd.int .i64) (Kd.int .i64)) (fun x : S63 => (x.f0, x.f1))
theorem k63_open {w : World} {x : S63} {cs : List Value} (h : k63.K w x cs) : cs = [.int .i64 x.f0, .int .i64 x.f1] := by
  obtain ⟨_, _, rfl, rfl, rfl⟩ := h
  exact rfl
theorem k63_openM {w : World} {base : Nat} {ok : Nat → Prop} {x : S63} {cs : List Value} (h : k63.M w base ok x cs) : cs = [.int .i64 x.f0, .int .i64 x.f1] := by
  obtain ⟨_, _, rfl, rfl, rfl⟩ := h
  exact rfl
theorem k63_mk (w : World) (x : S63)  : k63.K w x [.int .i64 x.f0, .int .i64 x.f1] := ⟨[.int .i64 x.f0], [.int .i64 x.f1], rfl, rfl, rfl⟩
theorem k63_mkM (w : World) (base : Nat) (ok : Nat → Prop) (x : S63)  : k63.M w base ok x [.int .i64 x.f0, .int .i64 x.f1] := ⟨[.int .i64 x.f0], [.int .i64 x.f1], rfl, rfl, rfl⟩
def rd_T63 (xs : List S63) (i : Int) : S63 := xs.getD i.toNat z63
theorem at_T63 {w : World} {A : Option Addr} {n : Nat} {xs : List S63} (h : Kd.C k63 w A n xs) (i : Int) (h0 : 0 ≤ i) (h1 : i < n) : ∃ ad , A = some ad ∧ w.cell? (ad.add (i.toNat * 2)) = some (.int .i64 (rd_T63 xs i).f0) ∧ w.cell? ⟨(ad.add (i.toNat * 2)).block, (ad.add (i.toNat * 2)).off + 1, none⟩ = some (.int .i64 (rd_T63 xs i).f1) := by
  obtain ⟨ad, c, e, _, hK, hc0⟩ := Kd.C_get h z63 i h0 h1
  have hc : ∀ j u, c[j]? = some u → w.cell? (ad.add (i.toNat * 2 + j)) = some u := hc0
  obtain rfl := k63_open hK
  exact ⟨ad, e, hc 0 _ rfl, by rw [← add_field _ _ 1 (by omega)]; exact hc 1 _ rfl⟩
structure S69 where
  f0 : S63
  f1 : S63
  f2 : S63
  f3 : S63
  f4 : S63
  f5 : S63
structure S65 where
  f0 : S63
  f1 : Int
def z65 : S65 := ⟨z63, (0 : Int)⟩
def k65 : Kd S65 := Kd.iso (Kd.pair k63 (Kd.int .i64)) (fun x : S65 => (x.f0, x.f1))
theorem k65_open {w : World} {x : S65} {cs : List Value} (h : k65.K w x cs) : cs = [.int .i64 x.f0.f0, .int .i64 x.f0.f1, .int .i64 x.f1] := by
  obtain ⟨_, _, rfl, s0, rfl⟩ := h
  obtain rfl := k63_open s0
  exact rfl
theorem k65_openM {w : World} {base : Nat} {ok : Nat → Prop} {x : S65} {cs : List Value} (h : k65.M w base ok x cs) : cs = [.int .i64 x.f0.f0, .int .i64 x.f0.f1, .int .i64 x.f1] := by
  obtain ⟨_, _, rfl, s0, rfl⟩ := h
  obtain rfl := k63_openM s0
  exact rfl
theorem k65_mkM (w : World) (base : Nat) (ok : Nat → Prop) (x : S65)  : k65.M w base ok x [.int .i64 x.f0.f0, .int .i64 x.f0.f1, .int .i64 x.f1] := ⟨[.int .i64 x.f0.f0, .int .i64 x.f0.f1], [.int .i64 x.f1], rfl, (k63_mkM w base ok x.f0 ), rfl⟩
def rd_T65 (xs : List S65) (i : Int) : S65 := xs.getD i.toNat z65
theorem at_T65 {w : World} {A : Option Addr} {n : Nat} {xs : List S65} (h : Kd.C k65 w A n xs) (i : Int) (h0 : 0 ≤ i) (h1 : i < n) : ∃ ad , A = some ad ∧ w.cell? (ad.add (i.toNat * 3)) = some (.int .i64 (rd_T65 xs i).f0.f0) ∧ w.cell? ⟨(ad.add (i.toNat * 3)).block, (ad.add (i.toNat * 3)).off + 1, none⟩ = some (.int .i64 (rd_T65 xs i).f0.f1) ∧ w.cell? ⟨(ad.add (i.toNat * 3)).block, (ad.add (i.toNat * 3)).off + 2, none⟩ = some (.int .i64 (rd_T65 xs i).f1) := by
  obtain ⟨ad, c, e, _, hK, hc0⟩ := Kd.C_get h z65 i h0 h1
  have hc : ∀ j u, c[j]? = some u → w.cell? (ad.add (i.toNat * 3 + j)) = some u := hc0
  obtain rfl := k65_open hK
  exact ⟨ad, e, hc 0 _ rfl, by rw [← add_field _ _ 1 (by omega)]; exact hc 1 _ rfl, by rw [← add_field _ _ 2 (by omega)]; exact hc 2 _ rfl⟩
structure S25 where
  f0 : Int
  f1 : S23
  f2 : S23
def z25 : S25 := ⟨(0 : Int), z23, z23⟩
def rd_L10 (xs : List (List Int)) (i : Int) : (List Int) := xs.getD i.toNat ([] : List Int)
theorem at_L10 {w : World} {A : Option Addr} {n : Nat} {xs : List (List Int)} (h : Kd.C (Kd.slice 2 (Kd.int .i64)) w A n xs) (i : Int) (h0 : 0 ≤ i) (h1 : i < n) : ∃ ad A0 c0, A = some ad ∧ w.cell? (ad.add i.toNat) = some (.slice A0 (rd_L10 xs i).length c0) ∧ (rd_L10 xs i).length ≤ c0 ∧ (Kd.int .i64).C w A0 (rd_L10 xs i).length (rd_L10 xs i) := by
  obtain ⟨ad, c, e, _, hK, hc0⟩ := Kd.C_get h ([] : List Int) i h0 h1
  have hc : ∀ j u, c[j]? = some u → w.cell? (ad.add (i.toNat * 1 + j)) = some u := hc0
  obtain ⟨A0, c0, rfl, l0, g0⟩ := hK
  exact ⟨ad, A0, c0, e, by have hq := hc 0 _ rfl; rwa [Nat.mul_one, Nat.add_zero] at hq, l0, g0⟩
structure S60 where
  f0 : Int
  f1 : Int
  f2 : Int
def z60 : S60 := ⟨(0 : Int), (0 : Int), (0 : Int)⟩
def k60 : Kd S60 := Kd.iso (Kd.pair (Kd.int .i64) (Kd.pair (Kd.int .i64) (Kd.int .i64))) (fun x : S60 => (x.f0, x.f1, x.f2))
theorem k60_open {w : World} {x : S60} {cs : List Value} (h : k60.K w x cs) : cs = [.int .i64 x.f0, .int .i64 x.f1, .int .i64 x.f2] := by
  obtain ⟨_, _, rfl, rfl, ⟨_, _, rfl, rfl, rfl⟩⟩ := h
  exact rfl
theorem k60_mkM (w : World) (base : Nat) (ok : Nat → Prop) (x : S60)  : k60.M w base ok x [.int .i64 x.f0, .int .i64 x.f1, .int .i64 x.f2] := ⟨[.int .i64 x.f0], [.int .i64 x.f1, .int .i64 x.f2], rfl, rfl, ⟨[.int .i64 x.f1], [.int .i64 x.f2], rfl, rfl, rfl⟩⟩
def rd_T60 (xs : List S60) (i : Int) : S60 := xs.getD i.toNat z60
theorem at_T60 {w : World} {A : Option Addr} {n : Nat} {xs : List S60} (h : Kd.C k60 w A n xs) (i : Int) (h0 : 0 ≤ i) (h1 : i < n) : ∃ ad , A = some ad ∧ w.cell? (ad.add (i.toNat * 3)) = some (.int .i64 (rd_T60 xs i).f0) ∧ w.cell? ⟨(ad.add (i.toNat * 3)).block, (ad.add (i.toNat * 3)).off + 1, none⟩ = some (.int .i64 (rd_T60 xs i).f1) ∧ w.cell? ⟨(ad.add (i.toNat * 3)).block, (ad.add (i.toNat * 3)).off + 2, none⟩ = some (.int .i64 (rd_T60 xs i).f2) := by
  obtain ⟨ad, c, e, _, hK, hc0⟩ := Kd.C_get h z60 i h0 h1
  have hc : ∀ j u, c[j]? = some u → w.cell? (ad.add (i.toNat * 3 + j)) = some u := hc0
  obtain rfl := k60_open hK
  exact ⟨ad, e, hc 0 _ rfl, by rw [← add_field _ _ 1 (by omega)]; exact hc 1 _ rfl, by rw [← add_field _ _ 2 (by omega)]; exact hc 2 _ rfl⟩
structure S55 where
  f0 : Int
  f1 : (List Int)
  f2 : (List Int)
def z55 : S55 := ⟨(0 : Int), ([] : List Int), ([] : List Int)⟩
structure S104 where
  f0 : Int
  f1 : Int
def z104 : S104 := ⟨(0 : Int), (0 : Int)⟩
def k104 : Kd S104 := Kd.iso (Kd.pair (Kd.int .i64) (Kd.int .u8)) (fun x : S104 => (x.f0, x.f1))
theorem k104_open {w : World} {x : S104} {cs : List Value} (h : k104.K w x cs) : cs = [.int .i64 x.f0, .int .u8 x.f1] := by
  obtain ⟨_, _, rfl, rfl, rfl⟩ := h
  exact rfl
theorem k104_mkM (w : World) (base : Nat) (ok : Nat → Prop) (x : S104)  : k104.M w base ok x [.int .i64 x.f0, .int .u8 x.f1] := ⟨[.int .i64 x.f0], [.int .u8 x.f1], rfl, rfl, rfl⟩
def rd_T104 (xs : List S104) (i : Int) : S104 := xs.getD i.toNat z104
theorem at_T104 {w : World} {A : Option Addr} {n : Nat} {xs : List S104} (h : Kd.C k104 w A n xs) (i : Int) (h0 : 0 ≤ i) (h1 : i < n) : ∃ ad , A = some ad ∧ w.cell? (ad.add (i.toNat * 2)) = some (.int .i64 (rd_T104 xs i).f0) ∧ w.cell? ⟨(ad.add (i.toNat * 2)).block, (ad.add (i.toNat * 2)).off + 1, none⟩ = some (.int .u8 (rd_T104 xs i).f1) := by
  obtain ⟨ad, c, e, _, hK, hc0⟩ := Kd.C_get h z104 i h0 h1
  have hc : ∀ j u, c[j]? = some u → w.cell? (ad.add (i.toNat * 2 + j)) = some u := hc0
  obtain rfl := k104_open hK
  exact ⟨ad, e, hc 0 _ rfl, by rw [← add_field _ _ 1 (by omega)]; exact hc 1 _ rfl⟩
theorem bA_ {w : World} {g : Nat} {o : Obj} (h : w.heap[g]? = some o) (o' : Obj) : (w.alloc o').heap[g]? = some o := blk_alloc h o'
theorem bD_ {w : World} {g : Nat} {o : Obj} (h : w.heap[g]? = some o) : w.drew.heap[g]? = some o := h
theorem bN_ {w : World} {g : Nat} {o : Obj} (h : w.heap[g]? = some o) (n : Nat) : (w.drewN n).heap[g]? = some o := h
theorem ba_ {w W : World} (h : Below w.heap.size w W) (o : Obj) : Below w.heap.size w (W.alloc o) := below_alloc h o
theorem bn_ {B : Nat} {w W : World} (h : Below B w W) (n : Nat) : Below B w (W.drewN n) := pw_below_drewN h n
theorem bd_ {B : Nat} {w W : World} (h : Below B w W) : Below B w W.drew := below_drew1 h
end Go.Proofs.YtaeenefdbahfoaaDoor.H
namespace Go.Proofs.YtaeenefdbahfoaaDoor
set_option linter.unusedSimpArgs false
set_option linter.unusedVariables false
set_option maxRecDepth 100000
set_option maxHeartbeats 16000000
section
open Go.RowKit Go.Proofs.YtaeenefdbahfoaaDoorW.PrintWords Go.Proofs.YtaeenefdbahfoaaDoorW.PrintLast Go.Proofs.YtaeenefdbahfoaaDoorW.PrintMore
open H
open Go.Shelf Go.Lib Go.Sort
def cmpCell (x y : S65) : Int :=
 if x.f0.f1 < y.f0.f1 ∨ (x.f0.f1 = y.f0.f1 ∧ (x.f0.f0 < y.f0.f0 ∨ (x.f0.f0 = y.f0.f0 ∧ x.f1 < y.f1))) then -1 else if x.f0.f0 = y.f0.f0 ∧ x.f0.f1 = y.f0.f1 ∧ x.f1 = y.f1 then 0 else 1
def encCell (x : S65) : List Value := [.int .i64 x.f0.f0, .int .i64 x.f0.f1, .int .i64 x.f1]
theorem compare_any (x y : S65) (w : World) :
    Calls Tryd.prog 75 #[.agg #[.int .i64 x.f0.f0, .int .i64 x.f0.f1, .int .i64 x.f1], .agg #[.int .i64 y.f0.f0, .int .i64 y.f0.f1, .int .i64 y.f1]] w fun e w' => e = .returned (.int .i64 (cmpCell x y)) ∧ ∃ q os', w' = grow (w.drewN q) os' := by
 obtain ⟨⟨a, b⟩, h⟩ := x
 obtain ⟨⟨c, d⟩, k⟩ := y
 simp only [cmpCell]
 go_enter Tryd.func75, Tryd.ntmps75
 go_wp2
 all_goals go_ret
 all_goals exact ⟨rfl, 0, _, by simp only [alloc_eq_grow, grow_grow]; rfl⟩
deriving instance DecidableEq for S63
deriving instance DecidableEq for S65
instance : Inhabited S65 := ⟨z65⟩
structure Row3 (w : World) (g cap : Nat) (d : Array S65) : Prop where
 le : d.size ≤ cap
 max : cap ≤ maxLen
 blk : ∃ cur, w.heap[g]? = some (.cells cur 65 (0, 0)) ∧ cur.size = cap * 3 ∧ ∀ j, j < d.size → cur[j * 3]? = some (.int .i64 d[j]!.f0.f0) ∧ cur[j * 3 + 1]? = some (.int .i64 d[j]!.f0.f1) ∧ cur[j * 3 + 2]? = some (.int .i64 d[j]!.f1)
section
variable {w w1 : World} {g cap : Nat} {d : Array S65}
theorem Row3.lt (h : Row3 w g cap d) : g < w.heap.size := by
 obtain ⟨cur, hb, _⟩ := h.blk
 exact (Array.getElem?_eq_some_iff.1 hb).1
theorem Row3.cell (h : Row3 w g cap d) (j : Nat) (hj : j < d.size) : w.cell? ⟨g, j * 3, none⟩ = some (.int .i64 d[j]!.f0.f0) ∧ w.cell? ⟨g, j * 3 + 1, none⟩ = some (.int .i64 d[j]!.f0.f1) ∧ w.cell? ⟨g, j * 3 + 2, none⟩ = some (.int .i64 d[j]!.f1) := by
 obtain ⟨cur, hb, _, hc⟩ := h.blk
 simp only [World.cell?, hb]
 exact hc j hj
theorem Row3.frozen (h : Row3 w g cap d) (o : Nat) : w.frozen? ⟨g, o, none⟩ = false := by
 obtain ⟨cur, hb, _, hc⟩ := h.blk
 simp [World.frozen?, hb]
theorem Row3.of_block (h : Row3 w g cap d) (hb : w1.heap[g]? = w.heap[g]?) : Row3 w1 g cap d := ⟨h.le, h.max, by rw [hb]; exact h.blk⟩
theorem Row3.below (h : Row3 w g cap d) (hb : Below w.heap.size w w1) : Row3 w1 g cap d := h.of_block (hb.block g h.lt)
theorem Row3.grown (h : Row3 w g cap d) {row : Option Nat} (hg : w.grownBy w1 row) (hne : some g ≠ row) : Row3 w1 g cap d := h.of_block (hg.block g h.lt hne)
theorem Row3.set (h : Row3 w g cap d) (i : Nat) (hi : i < d.size) (x : S65) :
    Row3 (((w.setCell ⟨g, i * 3, none⟩ (.int .i64 x.f0.f0)).setCell ⟨g, i * 3 + 1, none⟩ (.int .i64 x.f0.f1)).setCell ⟨g, i * 3 + 2, none⟩ (.int .i64 x.f1)) g cap (d.setIfInBounds i x) := by
 obtain ⟨cur, hb, hs, hc⟩ := h.blk
 refine ⟨by simpa using h.le, h.max, _, blk_set (blk_set (blk_set hb _ _) _ _) _ _, by simp [hs], fun j hj => ?_⟩
 have hj' : j < d.size := by simpa using hj
 have hle := h.le
 have hcs : i * 3 + 2 < cur.size := by omega
 obtain ⟨c0, c1, c2⟩ := hc j hj'
 by_cases e : j = i
 ·subst e
  rw [getElem!_set_same d j x hi]
  simp [Array.getElem?_setIfInBounds, show j * 3 < cur.size by omega, show j * 3 + 1 < cur.size by omega, hcs]
 ·rw [getElem!_set_other d i j x e]
  simp [Array.getElem?_setIfInBounds, show ¬ i * 3 = j * 3 by omega, show ¬ i * 3 + 1 = j * 3 by omega, show ¬ i * 3 + 2 = j * 3 by omega, show ¬ i * 3 = j * 3 + 1 by omega, show ¬ i * 3 + 1 = j * 3 + 1 by omega, show ¬ i * 3 + 2 = j * 3 + 1 by omega, show ¬ i * 3 = j * 3 + 2 by omega, show ¬ i * 3 + 1 = j * 3 + 2 by omega, show ¬ i * 3 + 2 = j * 3 + 2 by omega, c0, c1, c2]
end
theorem row_of_R {w : World} {base : Nat} {ok : Nat → Prop} {v : Value} {xs : List S65} (h : Kd.R k65 65 w base ok v xs) :
    (v = .slice none 0 0 ∧ xs = []) ∨ ∃ g cap, v = .slice (some ⟨g, 0, none⟩) xs.length cap ∧ base ≤ g ∧ ok g ∧ Row3 w g cap xs.toArray := by
 obtain ⟨hok, inner, ho, hr⟩ := h
 obtain ⟨hlen, hc | ⟨g, cap, cur, rfl, hg, hh, h1, h2, h3, h4⟩⟩ := ho
 ·exact .inl ⟨hc.1, List.length_eq_zero_iff.1 hc.2⟩
 ·refine .inr ⟨g, cap, rfl, hg, hok g (by simp [Value.ownBlock]), by simpa using h1, h2, cur, hh, h3, fun j hj => ?_⟩
  have hj' : j < xs.length := by simpa using hj
  have hm := hr.2 j _ (List.getElem?_eq_getElem hj')
  have hcs := k65_openM hm
  have e : xs.toArray[j]! = xs[j] := by simp [hj']
  rw [e]
  have hin : ∀ t, t < xs.length * 3 → cur[t]? = inner[t]? := fun t ht => by
   rw [← Array.getElem?_toList, ← h4, show xs.length * k65.sz = xs.length * 3 from rfl, List.getElem?_take_of_lt ht]
  have hat : ∀ i, i < 3 → inner[j * 3 + i]? = ((inner.drop (j * 3)).take 3)[i]? := fun i hi => by
   rw [List.getElem?_take_of_lt hi, List.getElem?_drop]
  change (inner.drop (j * 3)).take 3 = _ at hcs
  have h0 := hat 0 (by omega)
  have h1' := hat 1 (by omega)
  have h2' := hat 2 (by omega)
  rw [hcs] at h0 h1' h2'
  exact ⟨by rw [hin _ (by omega)]; exact h0, by rw [hin _ (by omega)]; exact h1', by rw [hin _ (by omega)]; exact h2'⟩
theorem R_of_row {w : World} {base g cap : Nat} {xs : List S65} (h : Row3 w g cap xs.toArray) (hg : base ≤ g) {ok : Nat → Prop} (hok : ok g) :
    Kd.R k65 65 w base ok (.slice (some ⟨g, 0, none⟩) xs.length cap) xs := by
 obtain ⟨cur, hb, hs, hc⟩ := h.blk
 have hle : xs.length ≤ cap := by simpa using h.le
 refine ⟨fun k hk => by have : g = k := by simpa [Value.ownBlock] using hk
                        exact this ▸ hok, cur.toList.take (xs.length * 3), ⟨by show _ = xs.length * 3; simp [hs]; omega, .inr ⟨g, cap, cur, rfl, hg, hb, hle, h.max, hs, rfl⟩⟩, by show _ = xs.length * 3; simp [hs]; omega, fun j p hj => ?_⟩
 obtain ⟨hj', rfl⟩ := List.getElem?_eq_some_iff.1 hj
 obtain ⟨c0, c1, c2⟩ := hc j (by simpa using hj')
 have e : xs.toArray[j]! = xs[j] := by simp [hj']
 rw [e] at c0 c1 c2
 have : ((cur.toList.take (xs.length * 3)).drop (j * 3)).take 3 = [.int .i64 xs[j].f0.f0, .int .i64 xs[j].f0.f1, .int .i64 xs[j].f1] := by
  apply List.ext_getElem?
  intro i
  by_cases hi : i < 3
  ·rw [List.getElem?_take_of_lt hi, List.getElem?_drop, List.getElem?_take_of_lt (by omega), Array.getElem?_toList]
   have : i = 0 ∨ i = 1 ∨ i = 2 := by omega
   rcases this with rfl | rfl | rfl
   ·exact c0
   ·exact c1
   ·exact c2
  ·rw [List.getElem?_eq_none (by simp; omega), List.getElem?_eq_none (by simp; omega)]
 show (k65.M w base _ xs[j] (((cur.toList.take (xs.length * 3)).drop (j * 3)).take 3))
 rw [this]
 exact k65_mkM _ _ _ _
theorem holds_row {w : World} {g cap : Nat} {d : Array S65} (h : Row3 w g cap d) : HoldsK encCell 3 w g 0 d := by
 intro t ht
 have ht' : t < d.size * 3 := by simpa using ht
 refine ⟨?_, h.frozen _⟩
 rw [get_flatK _ _ _ _ ht']
 obtain ⟨c0, c1, c2⟩ := h.cell (t / 3) (by omega)
 have hr : t % 3 = 0 ∨ t % 3 = 1 ∨ t % 3 = 2 := by omega
 rcases hr with e | e | e
 ·rw [e, show 0 + t = t / 3 * 3 by omega]; exact c0
 ·rw [e, show 0 + t = t / 3 * 3 + 1 by omega]; exact c1
 ·rw [e, show 0 + t = t / 3 * 3 + 2 by omega]; exact c2
theorem row_sorted {w : World} {g cap n : Nat} {os : Array Obj} {d d' : Array S65} (h : Row3 w g cap d) (hs : d'.size = d.size) : Row3 (sortWorldK encCell 3 w g 0 n d' os) g cap d' ∧ w.grownBy (sortWorldK encCell 3 w g 0 n d' os) (some g) := by
 obtain ⟨cur, hb, hcs, hc⟩ := h.blk
 have hg := h.lt
 have hle := h.le
 have hheap : (sortWorldK encCell 3 w g 0 n d' os).heap[g]? = some (.cells (putCells id 0 (flatK encCell 3 d') cur) 65 (0, 0)) := by
  unfold sortWorldK putRowK
  rw [heap_grow_old _ _ (by simpa using hg)]
  simp [putRow, mapBlock, Sort.ahead, Array.getElem?_modify, hb, onCells]
 refine ⟨⟨by rw [hs]; exact hle, h.max, _, hheap, by simp [putCells, hcs], fun j hj => ?_⟩, rfl, rfl, rfl, by simp [sortWorldK, putRowK], fun k hk hne => ?_⟩
 ·have hj' : j < d.size := by omega
  have key : ∀ i, i < 3 → (putCells id 0 (flatK encCell 3 d') cur)[j * 3 + i]? = some ((encCell d'[j]!)[i]!) := fun i hi => by
   have hlt : j * 3 + i < d'.size * 3 := by omega
   have := get_flatK encCell 3 d' (j * 3 + i) hlt
   rw [show (j * 3 + i) / 3 = j by omega, show (j * 3 + i) % 3 = i by omega] at this
   simp only [putCells, Array.getElem?_mapIdx, id]
   rw [Array.getElem?_eq_getElem (show j * 3 + i < cur.size by omega)]
   simp only [Option.map_some, Nat.zero_le, true_and, Nat.zero_add, Nat.sub_zero, size_flatK, hlt, ↓reduceIte, this]
  exact ⟨key 0 (by omega), key 1 (by omega), key 2 (by omega)⟩
 ·unfold sortWorldK putRowK
  rw [heap_grow_old _ _ (by simpa using hk)]
  have : g ≠ k := fun e => hne (by rw [e])
  simp [putRow, mapBlock, Sort.ahead, Array.getElem?_modify, this]
theorem lt_cell (x y : S65) : ltOf cmpCell x y = decide (x.f0.f1 < y.f0.f1 ∨ (x.f0.f1 = y.f0.f1 ∧ (x.f0.f0 < y.f0.f0 ∨ (x.f0.f0 = y.f0.f0 ∧ x.f1 < y.f1)))) := by
 unfold ltOf cmpCell
 split
 ·simp [*]
 ·split <;> simp [*]
theorem swo_cell : SWO (ltOf cmpCell) where
 irrefl x := by rw [lt_cell]; simp
 trans x y z h1 h2 := by rw [lt_cell] at *; simp only [decide_eq_true_eq] at *; omega
 ntrans x y z h1 h2 := by rw [lt_cell] at *; simp only [decide_eq_false_iff_not] at *; omega
theorem tot_cell (x y : S65) (h1 : ltOf cmpCell x y = false) (h2 : ltOf cmpCell y x = false) : x = y := by
 rw [lt_cell] at *
 obtain ⟨⟨a, b⟩, h⟩ := x
 obtain ⟨⟨c, d⟩, k⟩ := y
 simp only [decide_eq_false_iff_not, S65.mk.injEq, S63.mk.injEq] at *
 omega
def sortCells (xs : List S65) : List S65 := xs.mergeSort fun x y => !(ltOf cmpCell) y x
end
open Go.RowKit Go.Proofs.YtaeenefdbahfoaaDoorW.PrintWords Go.Proofs.YtaeenefdbahfoaaDoorW.PrintLast Go.Proofs.YtaeenefdbahfoaaDoorW.PrintMore
namespace H
attribute [local go_sem] max2_int min2_int max_two min_two max_three min_three max_four min_four
def cell_Lattice_Good.f (a0 : Int) : Option (Bool) := if a0 ≥ 1 then (some (decide (a0 ≤ 3))) else (some false)
theorem cell_Lattice_Good.calls (a0 : Int) (r : Bool) (w : World) (h : cell_Lattice_Good.f a0 = some r) :
  Calls Tryd.prog 80 #[.int .i64 a0] w fun e w' => e = .returned (.bool r) ∧ Drawn0 w w' := by
 have H : (if a0 ≥ 1 then (some (decide (a0 ≤ 3))) else (some false)) = some r := h
 clear h
 by_cases c2 : a0 ≥ 1
 ·
  rw [if_pos c2] at H
  have c2b0 : decide (1 ≤ a0) = true := decide_eq_true c2
  clear c2
  obtain rfl := Option.some.inj H
  go_enter Tryd.func80, Tryd.ntmps80
  go_wp2
  go_ret
  exact ⟨by first | rfl | (simp; done) | (simp [*]; done), by repeat (first | exact Drawn0.refl _ | apply Drawn0.step)⟩
 rw [if_neg c2] at H
 have c2b0 : decide (1 ≤ a0) = false := decide_eq_false c2
 clear c2
 obtain rfl := Option.some.inj H
 go_enter Tryd.func80, Tryd.ntmps80
 go_wp2
 go_ret
 exact ⟨by first | rfl | (simp; done) | (simp [*]; done), by repeat (first | exact Drawn0.refl _ | apply Drawn0.step)⟩
def axis_Operator_Good.f (a0 : Int) : Option (Bool) := if a0 ≥ 0 then (some (decide (a0 < 12))) else (some false)
theorem axis_Operator_Good.calls (a0 : Int) (r : Bool) (w : World) (h : axis_Operator_Good.f a0 = some r) :
  Calls Tryd.prog 44 #[.int .i64 a0] w fun e w' => e = .returned (.bool r) ∧ Drawn0 w w' := by
 have H : (if a0 ≥ 0 then (some (decide (a0 < 12))) else (some false)) = some r := h
 clear h
 by_cases c2 : a0 ≥ 0
 ·
  rw [if_pos c2] at H
  have c2b0 : decide (0 ≤ a0) = true := decide_eq_true c2
  clear c2
  obtain rfl := Option.some.inj H
  go_enter Tryd.func44, Tryd.ntmps44
  go_wp2
  go_ret
  exact ⟨by first | rfl | (simp; done) | (simp [*]; done), by repeat (first | exact Drawn0.refl _ | apply Drawn0.step)⟩
 rw [if_neg c2] at H
 have c2b0 : decide (0 ≤ a0) = false := decide_eq_false c2
 clear c2
 obtain rfl := Option.some.inj H
 go_enter Tryd.func44, Tryd.ntmps44
 go_wp2
 go_ret
 exact ⟨by first | rfl | (simp; done) | (simp [*]; done), by repeat (first | exact Drawn0.refl _ | apply Drawn0.step)⟩
def cell_around.l0 : Nat → List (S63) → List (S63) → List (S65) → Int → Int → Int → Int → Option ((List (S65)))
 | 0, _, _, _, _, _, _, _ => none
 | k + 1, x3, x4, x5, x16, x17, x132000, x132001 => if x17 < x16 then (if 0 ≤ x17 then (if x17 < (x3.length : Int) then (if x17 < (x4.length : Int) then ((some (([(⟨(⟨wrap64 (x132000 + ((rd_T63 x3 x17).f0)), wrap64 (x132001 + ((rd_T63 x3 x17).f1))⟩ : S63), 0⟩ : S65), (⟨(⟨wrap64 (x132000 + ((rd_T63 x4 x17).f0)), wrap64 (x132001 + ((rd_T63 x4 x17).f1))⟩ : S63), 1⟩ : S65)] : List (S65)) : List (S65))).bind fun y142 => (if x5.length + y142.length < 5864062014805 then (cell_around.l0 k x3 x4 (x5 ++ y142) x16 (wrap64 (x17 + 1)) x132000 x132001) else (none))) else (none)) else (none)) else (none)) else (some x5)
def cell_around.f (k : Nat) (a0_0 : Int) (a0_1 : Int) : Option ((List (S65))) := (some (([(⟨0, 0⟩ : S63), (⟨(-1), 0⟩ : S63), (⟨0, (-1)⟩ : S63)] : List (S63)) : List (S63))).bind fun y132 => (cell_around.l0 k y132 (([(⟨(-1), 0⟩ : S63), (⟨0, (-1)⟩ : S63), (⟨(-1), (-1)⟩ : S63)] : List (S63))) ([] : List (S65)) (y132.length : Int) 0 a0_0 a0_1)
def cell_around.T7 : Bool × List (List Nat × List Nat) := (true, [([], []), ([], []), ([1], [1]), ([], []), ([], []), ([3, 4], [3, 4]), ([5], [5]), ([6], [6]), ([2, 7], [2, 7]), ([], []), ([9], [9]), ([], []), ([], []), ([11, 12], [11, 12]), ([13], [13]), ([14], [14]), ([10, 15], [10, 15]), ([8, 16], [8, 16]), ([17], [17]), ([], []), ([19], [19]), ([], []), ([], []), ([21, 22], [21, 22]), ([23], [23]), ([24], [24]), ([20, 25], [20, 25]), ([], []), ([27], [27]), ([], []), ([], []), ([29, 30], [29, 30]), ([31], [31]), ([32], [32]), ([28, 33], [28, 33]), ([26, 34], [26, 34]), ([35], [35]), ([18, 36], [18, 36]), ([0, 37], [0, 37]), ([38, 38, 0, 1, 2, 3, 4, 5, 6, 7, 8, 9, 10, 11, 12, 13, 14, 15, 16, 17, 18, 19, 20, 21, 22, 23, 24, 25, 26, 27, 28, 29, 30, 31, 32, 33, 34, 35, 36, 37, 38], [0, 38])])
def cell_around.B7 : List Nat := [0, 0, 2, 0, 0, 24, 56, 120, 254, 0, 512, 0, 0, 6144, 14336, 30720, 65024, 131070, 262142, 0, 524288, 0, 0, 6291456, 14680064, 31457280, 66584576, 0, 134217728, 0, 0, 1610612736, 3758096384, 8053063680, 17045651456, 34359214080, 68718952448, 137438953470, 274877906943, 549755813887]
theorem cell_around.tab7 : rtab .any (opsOf Tryd.f125 7) = cell_around.T7 := by kernel_rfl
theorem cell_around.bits7 : waitsOk cell_around.T7.2 cell_around.B7 = true := by kernel_rfl
theorem cell_around.calls (k : Nat) (a0_0 : Int) (a0_1 : Int) (r : List (S65)) (w : World) (h : cell_around.f k a0_0 a0_1 = some r) :
  Calls Tryd.prog 125 #[.agg #[.int .i64 a0_0, .int .i64 a0_1]] w fun e w' => ∃ v0_ : Value, e = .returned (v0_) ∧ Kd.R k65 65 w' w.heap.size (fun _ => True) v0_ r ∧ Below w.heap.size w w' := by
 have hu63 := Tryd.underlying63
 have hu65 := Tryd.underlying65
 have HB := Aside0.mk (Below.refl w.heap.size w)
 have H : ((some (([(⟨0, 0⟩ : S63), (⟨(-1), 0⟩ : S63), (⟨0, (-1)⟩ : S63)] : List (S63)) : List (S63))).bind fun y132 => (cell_around.l0 k y132 (([(⟨(-1), 0⟩ : S63), (⟨0, (-1)⟩ : S63), (⟨(-1), (-1)⟩ : S63)] : List (S63))) ([] : List (S65)) (y132.length : Int) 0 a0_0 a0_1)) = some r := h
 clear h
 obtain ⟨y132, hy132⟩ : ∃ y_ : List (S63), y_ = (([(⟨0, 0⟩ : S63), (⟨(-1), 0⟩ : S63), (⟨0, (-1)⟩ : S63)] : List (S63))) := ⟨_, rfl⟩
 replace H : (cell_around.l0 k y132 (([(⟨(-1), 0⟩ : S63), (⟨0, (-1)⟩ : S63), (⟨(-1), (-1)⟩ : S63)] : List (S63))) ([] : List (S65)) (y132.length : Int) 0 a0_0 a0_1) = some r := by first | (rw [hy132]; with_reducible exact H) | (have H2_ := (Option.bind_some _ _).symm.trans H; rw [hy132]; with_reducible exact H2_) | (have H2_ := (Option.bind_some _ _).symm.trans H; with_reducible exact H2_) | with_reducible exact H | (rw [hy132]; exact H) | exact H
 have Ny132 := Aside0.mk hy132
 clear hy132
 obtain ⟨y135, hy135⟩ : ∃ y_ : List (S63), y_ = (([(⟨(-1), 0⟩ : S63), (⟨0, (-1)⟩ : S63), (⟨(-1), (-1)⟩ : S63)] : List (S63))) := ⟨_, rfl⟩
 replace H : (cell_around.l0 k y132 y135 ([] : List (S65)) (y132.length : Int) 0 a0_0 a0_1) = some r := by first | (rw [hy135]; with_reducible exact H) | (have H2_ := (Option.bind_some _ _).symm.trans H; rw [hy135]; with_reducible exact H2_) | (have H2_ := (Option.bind_some _ _).symm.trans H; with_reducible exact H2_) | with_reducible exact H | (rw [hy135]; exact H) | exact H
 have Ny135 := Aside0.mk hy135
 clear hy135
 have H' := Aside0.mk H
 clear H
 go_enter Tryd.func125, Tryd.ntmps125
 go_wp2_with (first | ((with_reducible refine gate_dst (N := 1) rfl ?_); refine bx_ 1 #[.int .i64 a0_0, .int .i64 a0_1] 63 ?_; intro gb131 hg w2 hbox hb; have BK131 := Aside0.mk (hbox); have GW131 := Aside0.mk ((by rw [hg]; exact (below_size hb_) : w.heap.size ≤ gb131)); have GE131 := GW131; replace HB := Aside0.mk (below_step hb_ hb); clear hb hbox hg) | ((with_reducible refine gate_dst (N := 10) rfl ?_); refine rs1_ k63 63 10 ([(⟨0, 0⟩ : S63), (⟨(-1), 0⟩ : S63), (⟨0, (-1)⟩ : S63)] : List (S63)) [.int .i64 0, .int .i64 0, .int .i64 (-1), .int .i64 0, .int .i64 0, .int .i64 (-1)] (Reps.c2 (show Kd.M k63 _ _ _ (⟨0, 0⟩ : S63) [.int .i64 0, .int .i64 0] from (k63_mkM _ _ _ (⟨0, 0⟩ : S63) )) (Reps.c2 (show Kd.M k63 _ _ _ (⟨(-1), 0⟩ : S63) [.int .i64 (-1), .int .i64 0] from (k63_mkM _ _ _ (⟨(-1), 0⟩ : S63) )) (Reps.c2 (show Kd.M k63 _ _ _ (⟨0, (-1)⟩ : S63) [.int .i64 0, .int .i64 (-1)] from (k63_mkM _ _ _ (⟨0, (-1)⟩ : S63) )) (Reps.none _ _)))) ?_; intro v133 w3 ho4 hb; (first | rw [← Ny132.out] at ho4 | (simp only [Int.reduceToNat] at ho4; rw [← Ny132.out] at ho4)); have HO134 := Aside0.mk (Kd.R_lower (Kd.R_newB ho4 (g := gb131) (o := .cells #[.int .i64 a0_0, .int .i64 a0_1] 63 (0, 0)) (bk_ BK131.out)) (below_size (hg_ GE131.out))); replace BK131 := bb_ BK131.out hb; replace HB := Aside0.mk (below_step (hg_ GE131.out) hb); clear hb ho4) | ((with_reducible refine gate_dst (N := 14) rfl ?_); refine rs1_ k63 63 14 ([(⟨(-1), 0⟩ : S63), (⟨0, (-1)⟩ : S63), (⟨(-1), (-1)⟩ : S63)] : List (S63)) [.int .i64 (-1), .int .i64 0, .int .i64 0, .int .i64 (-1), .int .i64 (-1), .int .i64 (-1)] (Reps.c2 (show Kd.M k63 _ _ _ (⟨(-1), 0⟩ : S63) [.int .i64 (-1), .int .i64 0] from (k63_mkM _ _ _ (⟨(-1), 0⟩ : S63) )) (Reps.c2 (show Kd.M k63 _ _ _ (⟨0, (-1)⟩ : S63) [.int .i64 0, .int .i64 (-1)] from (k63_mkM _ _ _ (⟨0, (-1)⟩ : S63) )) (Reps.c2 (show Kd.M k63 _ _ _ (⟨(-1), (-1)⟩ : S63) [.int .i64 (-1), .int .i64 (-1)] from (k63_mkM _ _ _ (⟨(-1), (-1)⟩ : S63) )) (Reps.none _ _)))) ?_; intro v136 w5 ho6 hb; (first | rw [← Ny135.out] at ho6 | (simp only [Int.reduceToNat] at ho6; rw [← Ny135.out] at ho6)); have HO137 := Aside0.mk (Kd.R_lower (Kd.R_newB (Kd.R_new' ho6 (Kd.R_lt (kr_ HO134.out))) (g := gb131) (o := .cells #[.int .i64 a0_0, .int .i64 a0_1] 63 (0, 0)) (bk_ BK131.out)) (below_size (hg_ GE131.out))); replace HO134 := Aside0.mk (Kd.R_elder' (kr_ HO134.out) (Kd.R_base ho6) hb); replace BK131 := bb_ BK131.out hb; replace HB := Aside0.mk (below_step (hg_ GE131.out) hb); clear hb ho6; obtain ⟨Ao7, co7, eo7⟩ := Kd.R_slice HO134.out; subst eo7))
 go_loopg [5, 17] k (fun kq v5 v17 w' => ∃ (x5_1 : List (S65)) (x17_1 : Int), v17 = .int .i64 x17_1 ∧ Aside0 (cell_around.l0 kq y132 y135 x5_1 (y132.length : Int) x17_1 a0_0 a0_1 = some r) ∧ Aside0 (kq ≤ k) ∧ Aside0 (Kd.R k63 63 w' w.heap.size (fun k_ => some k_ ≠ (v136 : Value).ownBlock ∧ k_ ≠ gb131) (.slice Ao7 y132.length co7) y132) ∧ Aside0 (Kd.R k63 63 w' w.heap.size (fun k_ => some k_ ≠ ((.slice Ao7 y132.length co7) : Value).ownBlock ∧ k_ ≠ gb131) v136 y135) ∧ Aside0 (Kd.R k65 65 w' w.heap.size (fun _ => True) v5 x5_1) ∧ Aside0 (w'.heap[gb131]? = some (.cells #[.int .i64 a0_0, .int .i64 a0_1] 63 (0, 0))) ∧ Aside0 (Below w.heap.size w w'))
 case atStart => exact ⟨(([] : List (S65))), (0), rs_, H', ⟨Nat.le_refl _⟩, ⟨by (with_reducible repeat (first | apply Kd.R_alloc | apply Kd.R_drewN | apply Kd.R_drew)); exact Kd.R_mono HO134.out (fun _ hk => ⟨hk.2, hk.1.2⟩)⟩, ⟨by (with_reducible repeat (first | apply Kd.R_alloc | apply Kd.R_drewN | apply Kd.R_drew)); exact Kd.R_mono HO137.out (fun _ hk => ⟨hk.1.2, hk.2⟩)⟩, ⟨by first | exact Kd.R_nil _ _ _ _ _ | exact Kd.N_nil _ _ _ _ _ | exact Kd.V_nil _ _ _ _ _ | exact Kd.Q_nil _ _ _ _ _ | exact Kd.S_nil _ _ _ _ _⟩, ⟨bk_ BK131.out⟩, ⟨by repeat (first | (with_reducible first | exact HB.out | apply ba_ | apply bn_ | apply bd_ | refine below_set ?_ GE131.out) | exact HB.out)⟩⟩
 case round =>
  clear H'
  try clear c1
  try clear c2
  try clear p2
  obtain ⟨x5_1, x17_1, rfl, HA, HK1, HO_3, HO_4, HO_5, BK131, HB⟩ := hrel
  cases gk with
  | zero => exact absurd HA.out (by simp [cell_around.l0])
  | succ k1 =>
   have H := HA.out
   clear HA
   simp only [cell_around.l0] at H
   by_cases c8 : x17_1 < (y132.length : Int)
   rotate_left
   ·
    rw [if_neg c8] at H
    have c8b0 : decide (x17_1 < (y132.length : Int)) = false := decide_eq_false c8
    clear c8
    obtain rfl := Option.some.inj H
    go_wp2
    go_ret
    exact ⟨_, by first | rfl | (simp [errW_none, errW_some] <;> rfl) | (simp [*, errW_none, errW_some] <;> rfl), kr_ HO_5.out, by repeat (first | (with_reducible first | exact HB.out | apply ba_ | apply bn_ | apply bd_ | refine below_set ?_ GE131.out) | exact HB.out)⟩
   rw [if_pos c8] at H
   have c8b0 : decide (x17_1 < (y132.length : Int)) = true := decide_eq_true c8
   clear c8
   by_cases c9 : 0 ≤ x17_1
   rotate_left
   ·
    rw [if_neg c9] at H
    exact absurd H (by simp)
   rw [if_pos c9] at H
   have c9b0 : decide (0 ≤ x17_1) = true := decide_eq_true c9
   clear c9
   by_cases c10 : x17_1 < (y132.length : Int)
   rotate_left
   ·
    rw [if_neg c10] at H
    exact absurd H (by simp)
   rw [if_pos c10] at H
   have c10b0 : decide (x17_1 < (y132.length : Int)) = true := decide_eq_true c10
   clear c10
   by_cases c11 : x17_1 < (y135.length : Int)
   rotate_left
   ·
    rw [if_neg c11] at H
    exact absurd H (by simp)
   rw [if_pos c11] at H
   have c11b0 : decide (x17_1 < (y135.length : Int)) = true := decide_eq_true c11
   clear c11
   obtain ⟨y142, hy142⟩ : ∃ y_ : List (S65), y_ = (([(⟨(⟨wrap64 (a0_0 + ((rd_T63 y132 x17_1).f0)), wrap64 (a0_1 + ((rd_T63 y132 x17_1).f1))⟩ : S63), 0⟩ : S65), (⟨(⟨wrap64 (a0_0 + ((rd_T63 y135 x17_1).f0)), wrap64 (a0_1 + ((rd_T63 y135 x17_1).f1))⟩ : S63), 1⟩ : S65)] : List (S65))) := ⟨_, rfl⟩
   replace H : (if x5_1.length + y142.length < 5864062014805 then (cell_around.l0 k1 y132 y135 (x5_1 ++ y142) (y132.length : Int) (wrap64 (x17_1 + 1)) a0_0 a0_1) else (none)) = some r := by first | (rw [hy142]; with_reducible exact H) | (have H2_ := (Option.bind_some _ _).symm.trans H; rw [hy142]; with_reducible exact H2_) | (have H2_ := (Option.bind_some _ _).symm.trans H; with_reducible exact H2_) | with_reducible exact H | (rw [hy142]; exact H) | exact H
   have Ny142 := Aside0.mk hy142
   clear hy142
   by_cases c12 : x5_1.length + y142.length < 5864062014805
   rotate_left
   ·
    rw [if_neg c12] at H
    exact absurd H (by simp)
   rw [if_pos c12] at H
   have LMc12 := Aside0.mk c12
   clear c12
   obtain ⟨y145, hy145⟩ : ∃ y_ : List (S65), y_ = (x5_1 ++ y142) := ⟨_, rfl⟩
   replace H : (cell_around.l0 k1 y132 y135 y145 (y132.length : Int) (wrap64 (x17_1 + 1)) a0_0 a0_1) = some r := by first | (rw [hy145]; with_reducible exact H) | (have H2_ := (Option.bind_some _ _).symm.trans H; rw [hy145]; with_reducible exact H2_) | (have H2_ := (Option.bind_some _ _).symm.trans H; with_reducible exact H2_) | with_reducible exact H | (rw [hy145]; exact H) | exact H
   have Ny145 := Aside0.mk hy145
   clear hy145
   have H' := Aside0.mk H
   clear H
   try go_wp2
   replace HO_3 := Aside0.mk (Kd.R_drew HO_3.out)
   replace HO_4 := Aside0.mk (Kd.R_drew HO_4.out)
   replace HO_5 := Aside0.mk (Kd.R_drew HO_5.out)
   replace BK131 := Aside0.mk (blk_drew BK131.out)
   replace HB := Aside0.mk (below_drew1 HB.out)
   have p138 : 0 ≤ (x17_1 : Int) := of_decide_eq_true as_
   have q138 : x17_1 < (y132.length : Int) := of_decide_eq_true as_
   obtain ⟨ad138, e138, hx138_0, hx138_1⟩ := at_T63 (Kd.R_reads' HO_3.out).2.2 x17_1 p138 q138
   cases e138
   replace p138 := eq_true p138
   replace q138 := eq_true q138
   have p139 : 0 ≤ (x17_1 : Int) := of_decide_eq_true as_
   have q139 : x17_1 < (y132.length : Int) := of_decide_eq_true as_
   obtain ⟨ad139, e139, hx139_0, hx139_1⟩ := at_T63 (Kd.R_reads' HO_3.out).2.2 x17_1 p139 q139
   obtain rfl : ad138 = ad139 := (by injection e139)
   replace p139 := eq_true p139
   replace q139 := eq_true q139
   obtain ⟨Ao14, co14, eo14⟩ := Kd.R_slice HO_4.out
   (first | subst eo14 | (injection eo14 with f1_ f2_ f3_; have f4_ := f1_.symm; have f5_ := f3_.symm; clear f1_ f2_ f3_; subst f4_; subst f5_))
   have p140 : 0 ≤ (x17_1 : Int) := of_decide_eq_true as_
   have q140 : x17_1 < (y135.length : Int) := of_decide_eq_true as_
   obtain ⟨ad140, e140, hx140_0, hx140_1⟩ := at_T63 (Kd.R_reads' HO_4.out).2.2 x17_1 p140 q140
   cases e140
   replace p140 := eq_true p140
   replace q140 := eq_true q140
   have p141 : 0 ≤ (x17_1 : Int) := of_decide_eq_true as_
   have q141 : x17_1 < (y135.length : Int) := of_decide_eq_true as_
   obtain ⟨ad141, e141, hx141_0, hx141_1⟩ := at_T63 (Kd.R_reads' HO_4.out).2.2 x17_1 p141 q141
   obtain rfl : ad140 = ad141 := (by injection e141)
   replace p141 := eq_true p141
   replace q141 := eq_true q141
   refine start_ (n := 40) (S := fun w' => w'.cell? ⟨gb131, 0, none⟩ = some (.int .i64 a0_0) ∧ w'.cell? ⟨gb131, 1, none⟩ = some (.int .i64 a0_1) ∧ w'.cell? (ad138.add ((x17_1).toNat * 2)) = some (.int .i64 ((rd_T63 y132 x17_1).f0)) ∧ w'.cell? ⟨(ad138.add ((x17_1).toNat * 2)).block, (ad138.add ((x17_1).toNat * 2)).off + 1, none⟩ = some (.int .i64 ((rd_T63 y132 x17_1).f1)) ∧ w'.cell? (ad138.add ((x17_1).toNat * 2)) = some (.int .i64 ((rd_T63 y132 x17_1).f0)) ∧ w'.cell? ⟨(ad138.add ((x17_1).toNat * 2)).block, (ad138.add ((x17_1).toNat * 2)).off + 1, none⟩ = some (.int .i64 ((rd_T63 y132 x17_1).f1)) ∧ w'.cell? (ad140.add ((x17_1).toNat * 2)) = some (.int .i64 ((rd_T63 y135 x17_1).f0)) ∧ w'.cell? ⟨(ad140.add ((x17_1).toNat * 2)).block, (ad140.add ((x17_1).toNat * 2)).off + 1, none⟩ = some (.int .i64 ((rd_T63 y135 x17_1).f1)) ∧ w'.cell? (ad140.add ((x17_1).toNat * 2)) = some (.int .i64 ((rd_T63 y135 x17_1).f0)) ∧ w'.cell? ⟨(ad140.add ((x17_1).toNat * 2)).block, (ad140.add ((x17_1).toNat * 2)).off + 1, none⟩ = some (.int .i64 ((rd_T63 y135 x17_1).f1))) (ds := [38]) (m_ 40 0) (by kernel_rfl) rfl rfl ⟨(blk_cell BK131.out 0).trans rfl, (blk_cell BK131.out 1).trans rfl, hx138_0, hx138_1, hx139_0, hx139_1, hx140_0, hx140_1, hx141_0, hx141_1⟩ (fun hHeld => ?_); refine with_tabW cell_around.tab7 cell_around.bits7 (fun HT_ HW_ => ?_)
   generalize wr.drew = w13 at HO_3 HO_4 HO_5 BK131 HB hx138_0 hx138_1 hx139_0 hx139_1 hx140_0 hx140_1 hx141_0 hx141_1 hHeld ⊢
   refine pq_ 0 (some 20) (m_ 40 1) (h := ?_)
   refine pq_ 1 (some 21) (m_ 40 3) (h := ?_)
   refine pq_ 3 (some 23) (m_ 40 11) (h := ?_)
   refine pq_ 4 (some 24) (m_ 40 27) (h := ?_)
   refine pq_ 5 (some 25) (m_ 40 59) (h := ?_)
   refine pq_ 6 (some 26) (m_ 40 123) (h := ?_)
   refine pq_ 9 (some 29) (m_ 40 635) (h := ?_)
   refine pq_ 11 (some 31) (m_ 40 2683) (h := ?_)
   refine pq_ 12 (some 32) (m_ 40 6779) (h := ?_)
   refine pq_ 13 (some 33) (m_ 40 14971) (h := ?_)
   refine pq_ 14 (some 34) (m_ 40 31355) (h := ?_)
   refine pq_ 19 (some 39) (m_ 40 555643) (h := ?_)
   refine pq_ 21 (some 41) (m_ 40 2652795) (h := ?_)
   refine pq_ 22 (some 42) (m_ 40 6847099) (h := ?_)
   refine pq_ 23 (some 43) (m_ 40 15235707) (h := ?_)
   refine pq_ 24 (some 44) (m_ 40 32012923) (h := ?_)
   refine pq_ 27 (some 47) (m_ 40 166230651) (h := ?_)
   refine pq_ 29 (some 49) (m_ 40 703101563) (h := ?_)
   refine pq_ 30 (some 50) (m_ 40 1776843387) (h := ?_)
   refine pq_ 31 (some 51) (m_ 40 3924327035) (h := ?_)
   refine pq_ 32 (some 52) (m_ 40 8219294331) (h := ?_)
   refine tq10_ 2 (some 22) (m_ 40 8219294335) (h := ?_)
   refine tq10_ 7 (some 27) (m_ 40 8219294463) (h := ?_)
   refine pq_ 8 (some 28) (m_ 40 8219294719) (h := ?_)
   refine tq10_ 10 (some 30) (m_ 40 8219295743) (h := ?_)
   refine tq10_ 15 (some 35) (m_ 40 8219328511) (h := ?_)
   refine pq_ 16 (some 36) (m_ 40 8219394047) (h := ?_)
   refine pq_ 17 (some 37) (m_ 40 8219525119) (h := ?_)
   refine pq_ 18 (some 38) (m_ 40 8219787263) (h := ?_)
   refine tq10_ 20 (some 40) (m_ 40 8220835839) (h := ?_)
   refine tq10_ 25 (some 45) (m_ 40 8254390271) (h := ?_)
   refine pq_ 26 (some 46) (m_ 40 8321499135) (h := ?_)
   refine tq10_ 28 (some 48) (m_ 40 8589934591) (h := ?_)
   refine tq10_ 33 (some 53) (m_ 40 17179869183) (h := ?_)
   refine pq_ 34 (some 54) (m_ 40 34359738367) (h := ?_)
   refine pq_ 35 (some 55) (m_ 40 68719476735) (h := ?_)
   refine pq_ 36 (some 56) (m_ 40 137438953471) (h := ?_)
   refine one_ (i := 37) (N := some 57) (m_ 40 274877906943) rfl rfl (one_of HT_.out (by kernel_rfl)) (by decide) (fun K hK => ?_)
   refine Kd.R_lit_step k65 _ 65 ?hg (N := 57) ?hd (xs := ([(⟨(⟨wrap64 (a0_0 + ((rd_T63 y132 x17_1).f0)), wrap64 (a0_1 + ((rd_T63 y132 x17_1).f1))⟩ : S63), 0⟩ : S65), (⟨(⟨wrap64 (a0_0 + ((rd_T63 y135 x17_1).f0)), wrap64 (a0_1 + ((rd_T63 y135 x17_1).f1))⟩ : S63), 1⟩ : S65)] : List (S65))) (inner := [.int .i64 (wrap64 (a0_0 + ((rd_T63 y132 x17_1).f0))), .int .i64 (wrap64 (a0_1 + ((rd_T63 y132 x17_1).f1))), .int .i64 0, .int .i64 (wrap64 (a0_0 + ((rd_T63 y135 x17_1).f0))), .int .i64 (wrap64 (a0_1 + ((rd_T63 y135 x17_1).f1))), .int .i64 1]) (ok := fun _ => True) (okp := fun _ => True) ?hr ?hp (fun _ hk => hk) trivial (Below.refl _ _) (Nat.le_refl _) (by simp) ?_; (case hd => rfl); (case hg => rfl); (case hr => first | (go_simp; done) | (go_simp; rfl)); (case hp => exact (Reps.c3 (show Kd.M k65 _ _ _ (⟨(⟨wrap64 (a0_0 + ((rd_T63 y132 x17_1).f0)), wrap64 (a0_1 + ((rd_T63 y132 x17_1).f1))⟩ : S63), 0⟩ : S65) [.int .i64 (wrap64 (a0_0 + ((rd_T63 y132 x17_1).f0))), .int .i64 (wrap64 (a0_1 + ((rd_T63 y132 x17_1).f1))), .int .i64 0] from (k65_mkM _ _ _ (⟨(⟨wrap64 (a0_0 + ((rd_T63 y132 x17_1).f0)), wrap64 (a0_1 + ((rd_T63 y132 x17_1).f1))⟩ : S63), 0⟩ : S65) )) (Reps.c3 (show Kd.M k65 _ _ _ (⟨(⟨wrap64 (a0_0 + ((rd_T63 y135 x17_1).f0)), wrap64 (a0_1 + ((rd_T63 y135 x17_1).f1))⟩ : S63), 1⟩ : S65) [.int .i64 (wrap64 (a0_0 + ((rd_T63 y135 x17_1).f0))), .int .i64 (wrap64 (a0_1 + ((rd_T63 y135 x17_1).f1))), .int .i64 1] from (k65_mkM _ _ _ (⟨(⟨wrap64 (a0_0 + ((rd_T63 y135 x17_1).f0)), wrap64 (a0_1 + ((rd_T63 y135 x17_1).f1))⟩ : S63), 1⟩ : S65) )) (Reps.none _ _))))
   intro v143 w15 ho16 hb hg_ hnew_
   have HS2_ := (hb.cell (World.block_lt_of_cell? _ _ (hHeld.2.2.1))).trans (hHeld.2.2.1)
   have HS3_ := (hb.cell (World.block_lt_of_cell? _ _ (hHeld.2.2.2.1))).trans (hHeld.2.2.2.1)
   have HS4_ := (hb.cell (World.block_lt_of_cell? _ _ (hHeld.2.2.2.2.1))).trans (hHeld.2.2.2.2.1)
   have HS5_ := (hb.cell (World.block_lt_of_cell? _ _ (hHeld.2.2.2.2.2.1))).trans (hHeld.2.2.2.2.2.1)
   have HS6_ := (hb.cell (World.block_lt_of_cell? _ _ (hHeld.2.2.2.2.2.2.1))).trans (hHeld.2.2.2.2.2.2.1)
   have HS7_ := (hb.cell (World.block_lt_of_cell? _ _ (hHeld.2.2.2.2.2.2.2.1))).trans (hHeld.2.2.2.2.2.2.2.1)
   have HS8_ := (hb.cell (World.block_lt_of_cell? _ _ (hHeld.2.2.2.2.2.2.2.2.1))).trans (hHeld.2.2.2.2.2.2.2.2.1)
   have HS9_ := (hb.cell (World.block_lt_of_cell? _ _ (hHeld.2.2.2.2.2.2.2.2.2))).trans (hHeld.2.2.2.2.2.2.2.2.2)
   clear hg_ hnew_
   (first | rw [← Ny142.out] at ho16 | (simp only [Int.reduceToNat] at ho16; rw [← Ny142.out] at ho16))
   have HO144 := Aside0.mk (Kd.R_lower (Kd.R_new' ho16 (Kd.R_lt (kr_ HO_5.out))) (below_size (hg_ GE131.out)))
   replace HO_3 := Aside0.mk (Kd.R_below (kr_ HO_3.out) hb)
   replace HO_4 := Aside0.mk (Kd.R_below (kr_ HO_4.out) hb)
   replace HO_5 := Aside0.mk (Kd.R_elder' (kr_ HO_5.out) (Kd.R_base ho16) hb)
   replace BK131 := bb_ BK131.out hb
   replace HB := Aside0.mk (below_step (hg_ GE131.out) hb)
   clear hb ho16
   obtain ⟨Ao18, co18, eo18⟩ := Kd.R_slice HO144.out
   (first | subst eo18 | (injection eo18 with f1_ f2_ f3_; have f4_ := f1_.symm; have f5_ := f3_.symm; clear f1_ f2_ f3_; subst f4_; subst f5_))
   refine hK.out _ _ ⟨(blk_cell BK131.out 0).trans rfl, (blk_cell BK131.out 1).trans rfl, HS2_, HS3_, HS4_, HS5_, HS6_, HS7_, HS8_, HS9_⟩ (fun hHeld => ?_)
   clear hK K
   refine norm_ (a' := ?_) ?_ ?_
   rotate_left
   ·
    show Act.put _ (some 57) _ = _
    simp only [puts_]
    rfl
   refine last_ (i := 38) (N := some 58) (m_ 40 549755813887) rfl rfl (one_of HT_.out (by kernel_rfl)) (by decide) (fun K hK => ?_)
   refine Kd.R_append_rows_step k65 (w0 := w) w.heap.size (by rfl) (.tmp 20) (.tmp 57) 34 65 (.agg #[(.int .i64 0), (.int .i64 0), (.int .i64 0)]) 24 rfl Tryd.underlying34 info65 rfl (by decide) (by omega) u5 x5_1 y142 _ _ _ (fun k_ => some k_ ≠ (.slice Ao18 y142.length co18 : Value).ownBlock) (fun _ => False) rfl rfl ?aO ?aR (fun _ _ h => h) (fun _ h => h.elim) ?aF ?aB ?aS ?aL ?_
   (case aR => repeat (first | exact (Kd.R_reads' HO144.out).2.2 | (with_reducible refine Kd.C_alloc ?_ _) | (with_reducible refine Kd.C_drewN ?_ _) | (with_reducible refine Kd.C_drew ?_)))
   (case aB => exact (hg_ GE131.out))
   (case aF => exact (fun k_ hk => Kd.fresh' (Kd.R_lt (kr_ HO144.out)) k_ hk))
   (case aO => exact (by (with_reducible repeat (first | apply Kd.R_alloc | apply Kd.R_drewN | apply Kd.R_drew)); exact Kd.R_mono HO_5.out (fun _ hk => hk.2)))
   (case aS => exact (below_size (hg_ GE131.out)))
   (case aL => have := LMc12.out; omega)
   intro v146 w17 ho hb hg hat
   rw [← Ny145.out] at ho
   have HO147 := Aside0.mk (ho)
   replace HO_3 := Aside0.mk (Kd.R_over' (kr_ HO_3.out) (Kd.R_typed (kr_ HO_5.out)) (by decide) hg)
   replace HO_4 := Aside0.mk (Kd.R_over' (kr_ HO_4.out) (Kd.R_typed (kr_ HO_5.out)) (by decide) hg)
   replace BK131 := Aside0.mk (blk_grown (g := gb131) (o := .cells #[.int .i64 a0_0, .int .i64 a0_1] 63 (0, 0)) (bk_ BK131.out) hg (Kd.R_ne HO_5.out BK131.out (by decide)))
   replace HO144 := Aside0.mk (Kd.R_after (ok := (fun _ => True)) (kr_ HO144.out) hg hat)
   replace HB := Aside0.mk (hb)
   clear HO_5
   clear ho hb hg hat
   refine hK.out _ _ ?_
   clear hK K
   refine norm_ (a' := ?_) ?_ ?_
   rotate_left
   ·
    show Act.put _ (some 58) _ = _
    simp only [puts_]
    rfl
   refine pq_ 39 (some 5) (m_ 40 1099511627775) (h := ?_)
   refine done_ (done_of HT_.out (by kernel_rfl)) ?_
   try go_wp2
   go_roundg k1
   case measure => have := HK1.out; omega
   case rel => exact ⟨(y145), (wrap64 (x17_1 + 1)), rs_, H', ⟨by have := HK1.out; omega⟩, ⟨kr_ HO_3.out⟩, ⟨kr_ HO_4.out⟩, ⟨by (with_reducible repeat (first | apply Kd.R_alloc | apply Kd.R_drewN | apply Kd.R_drew)); exact Kd.R_mono HO147.out (fun _ hk => trivial)⟩, ⟨bk_ BK131.out⟩, ⟨by repeat (first | (with_reducible first | exact HB.out | apply ba_ | apply bn_ | apply bd_ | refine below_set ?_ GE131.out) | exact HB.out)⟩⟩
end H
open H
abbrev CL := S65
def mk (a b h : Int) : CL := ⟨⟨a, b⟩, h⟩
def sh (a b : Int) (x : CL) : CL := ⟨⟨a + x.f0.f0, b + x.f0.f1⟩, x.f1⟩
theorem w64i (x : Int) (h1 : -9223372036854775808 ≤ x) (h2 : x ≤ 9223372036854775807) : wrap64 x = x := by unfold wrap64; omega
def goodP (a b : Int) : Prop := -1099511627776 ≤ a ∧ a ≤ 1099511627776 ∧ -1099511627776 ≤ b ∧ b ≤ 1099511627776
instance (a b : Int) : Decidable (goodP a b) := by unfold goodP; infer_instance
theorem good_any (a b : Int) (w : World) : Calls Tryd.prog 92 #[.agg #[.int .i64 a, .int .i64 b]] w fun e w' => e = .returned (.bool (decide (goodP a b))) ∧ Below w.heap.size w w' := by
 by_cases h : goodP a b
 ·rw [decide_eq_true h]
  obtain ⟨h1, h2, h3, h4⟩ := h
  go_enter Tryd.func92, Tryd.ntmps92
  go_wp2
  go_ret
  exact ⟨rfl, (by with_reducible repeat (first | apply below_alloc | apply pw_below_drewN | apply below_drew | refine bset ?_ _ _ (by omega) _ | exact Below.refl _ _))⟩
 ·rw [decide_eq_false h]
  simp only [goodP] at h
  go_enter Tryd.func92, Tryd.ntmps92
  go_wp2
  all_goals (first | (exfalso; omega) | (go_ret; exact ⟨by simp; try omega, (by with_reducible repeat (first | apply below_alloc | apply pw_below_drewN | apply below_drew | refine bset ?_ _ _ (by omega) _ | exact Below.refl _ _))⟩))
def checkR (l a b h : Int) : Option Int := if 1 ≤ l ∧ l ≤ 3 then (if h < 0 ∨ (if l = 1 then 1 else 2) ≤ h then some 4 else if goodP a b then none else some 6) else some 11
def halvesR (l : Int) : Int := if l = 1 then 1 else 2
theorem halves_any (l : Int) (w : World) : Calls Tryd.prog 87 #[.int .i64 l] w fun e w' => e = .returned (.int .i64 (halvesR l)) ∧ w' = w := by
 by_cases h : l = 1
 all_goals
  simp only [halvesR, h, ↓reduceIte]
  go_enter Tryd.func87, Tryd.ntmps87
  go_wp2
  go_ret
  exact ⟨rfl, rfl⟩
theorem lgood_any (l : Int) (w : World) : Calls Tryd.prog 80 #[.int .i64 l] w fun e w' => e = .returned (.bool (decide (1 ≤ l ∧ l ≤ 3))) ∧ w' = w := by
 by_cases h : 1 ≤ l ∧ l ≤ 3
 ·rw [decide_eq_true h]
  obtain ⟨h1, h2⟩ := h
  go_enter Tryd.func80, Tryd.ntmps80
  go_wp2
  go_ret
  exact ⟨rfl, rfl⟩
 ·rw [decide_eq_false h]
  go_enter Tryd.func80, Tryd.ntmps80
  go_wp2
  all_goals (first | (exfalso; omega) | (go_ret; exact ⟨by simp; try omega, rfl⟩))
theorem check_any (l a b h : Int) (w : World) : Calls Tryd.prog 81 #[.int .i64 l, .agg #[.int .i64 a, .int .i64 b, .int .i64 h]] w fun e w' => e = .returned (errW (checkR l a b h)) ∧ Below w.heap.size w w' := by
 have hl := lgood_any l
 have hh := halves_any l
 have hg := good_any a b
 unfold checkR
 by_cases h1 : 1 ≤ l ∧ l ≤ 3
 ·rw [if_pos h1]
  rw [decide_eq_true h1] at hl
  have h2' : 1 ≤ halvesR l ∧ halvesR l ≤ 2 := by unfold halvesR; split <;> omega
  by_cases h2 : h < 0 ∨ (if l = 1 then 1 else 2) ≤ h
  ·rw [if_pos h2]
   change h < 0 ∨ halvesR l ≤ h at h2
   by_cases h3 : h < 0
   ·have hd : decide (h < 0) = true := decide_eq_true h3
    go_enter Tryd.func81, Tryd.ntmps81
    go_wp2_with (go_at_call 80; refine (hl _).mono ?_; rintro e w' ⟨rfl, rfl⟩)
    go_quiet (first | (go_at_call 87; exact Calls.quiet_of_same (hh _)))
    go_wp2
    go_ret
    exact ⟨rfl, (by with_reducible repeat (first | apply below_alloc | apply pw_below_drewN | apply below_drew | refine bset ?_ _ _ (by omega) _ | exact Below.refl _ _))⟩
   ·have hd : decide (h < 0) = false := decide_eq_false h3
    have h4 : halvesR l ≤ h := by omega
    generalize halvesR l = hv at hh h4 h2'
    go_enter Tryd.func81, Tryd.ntmps81
    go_wp2_with (go_at_call 80; refine (hl _).mono ?_; rintro e w' ⟨rfl, rfl⟩)
    go_quiet (first | (go_at_call 87; exact Calls.quiet_of_same (hh _)))
    go_wp2
    go_ret
    exact ⟨rfl, (by with_reducible repeat (first | apply below_alloc | apply pw_below_drewN | apply below_drew | refine bset ?_ _ _ (by omega) _ | exact Below.refl _ _))⟩
  ·rw [if_neg h2]
   change ¬ (h < 0 ∨ halvesR l ≤ h) at h2
   have hd : decide (h < 0) = false := decide_eq_false (by omega)
   have h4 : h < halvesR l := by omega
   have h5 : 0 ≤ h := by omega
   generalize halvesR l = hv at hh h4 h2'
   by_cases h6 : goodP a b
   ·rw [if_pos h6]
    rw [decide_eq_true h6] at hg
    go_enter Tryd.func81, Tryd.ntmps81
    go_wp2_with (go_at_call 80; refine (hl _).mono ?_; rintro e w' ⟨rfl, rfl⟩)
    go_quiet (first | (go_at_call 87; exact Calls.quiet_of_same (hh _)))
    go_wp2_with (go_at_call 92; refine (hg _).mono ?_; rintro e w' ⟨rfl, hb⟩)
    go_ret
    exact ⟨rfl, Below.trans (by with_reducible repeat (first | apply below_alloc | apply pw_below_drewN | apply below_drew | refine bset ?_ _ _ (by omega) _ | exact Below.refl _ _)) (hb.mono (by simp))⟩
   ·rw [if_neg h6]
    rw [decide_eq_false h6] at hg
    go_enter Tryd.func81, Tryd.ntmps81
    go_wp2_with (go_at_call 80; refine (hl _).mono ?_; rintro e w' ⟨rfl, rfl⟩)
    go_quiet (first | (go_at_call 87; exact Calls.quiet_of_same (hh _)))
    go_wp2_with (go_at_call 92; refine (hg _).mono ?_; rintro e w' ⟨rfl, hb⟩)
    go_ret
    exact ⟨rfl, Below.trans (by with_reducible repeat (first | apply below_alloc | apply pw_below_drewN | apply below_drew | refine bset ?_ _ _ (by omega) _ | exact Below.refl _ _)) (hb.mono (by simp))⟩
 ·rw [if_neg h1]
  rw [decide_eq_false h1] at hl
  go_enter Tryd.func81, Tryd.ntmps81
  go_wp2_with (go_at_call 80; refine (hl _).mono ?_; rintro e w' ⟨rfl, rfl⟩)
  go_ret
  exact ⟨rfl, (by with_reducible repeat (first | apply below_alloc | apply pw_below_drewN | apply below_drew | refine bset ?_ _ _ (by omega) _ | exact Below.refl _ _))⟩
theorem checkR_ok {l a b h : Int} (hc : checkR l a b h = none) : 1 ≤ l ∧ l ≤ 3 ∧ goodP a b ∧ (h = 0 ∨ h = 1) ∧ (l = 1 → h = 0) := by
 unfold checkR at hc
 by_cases h0 : 1 ≤ l ∧ l ≤ 3
 ·rw [if_pos h0] at hc
  by_cases h1 : h < 0 ∨ (if l = 1 then 1 else 2) ≤ h
  ·rw [if_pos h1] at hc
   cases hc
  ·rw [if_neg h1] at hc
   by_cases h2 : goodP a b
   ·by_cases hl : l = 1
    ·rw [if_pos hl] at h1
     exact ⟨h0.1, h0.2, h2, by omega, fun _ => by omega⟩
    ·rw [if_neg hl] at h1
     exact ⟨h0.1, h0.2, h2, by omega, fun e => absurd e hl⟩
   ·rw [if_neg h2] at hc
    cases hc
 ·rw [if_neg h0] at hc
  cases hc
open Go.Shelf Go.Lib Go.Sort
abbrev CL0 := S65
def turnP (p : Int × Int) : Int × Int := (-p.2, p.1 + p.2)
def thr0 (o a b h : Int) : Int × Int := if o < 6 then (3 * a + 1 + h, 3 * b + 1 + h) else (3 * b + 1 + h, 3 * a + 1 + h)
def thrN (o a b h : Int) : Nat → Int × Int
 | 0 => thr0 o a b h
 | k + 1 => turnP (thrN o a b h k)
theorem thr_bd (o a b h : Int) (hg : goodP a b) (h0 : 0 ≤ h) (h1 : h ≤ 1) (k : Nat) (hk : k ≤ 6) : (-7398046511104 ≤ (thrN o a b h k).1 ∧ (thrN o a b h k).1 ≤ 7398046511104) ∧ (-7398046511104 ≤ (thrN o a b h k).2 ∧ (thrN o a b h k).2 ≤ 7398046511104) := by
 obtain ⟨g1, g2, g3, g4⟩ := hg
 have : k = 0 ∨ k = 1 ∨ k = 2 ∨ k = 3 ∨ k = 4 ∨ k = 5 ∨ k = 6 := by omega
 rcases this with rfl | rfl | rfl | rfl | rfl | rfl | rfl <;> (simp only [thrN, turnP, thr0]; split <;> (simp only []; omega))
theorem thr_mod (o a b h : Int) (h0 : 0 ≤ h) (h1 : h ≤ 1) : ∀ k, (thrN o a b h k).1 % 3 = (thrN o a b h k).2 % 3 ∧ ((thrN o a b h k).1 % 3 = 1 ∨ (thrN o a b h k).1 % 3 = 2)
 | 0 => by simp only [thrN, thr0]; split <;> (simp only []; omega)
 | k + 1 => by
  have := thr_mod o a b h h0 h1 k
  simp only [thrN, turnP]
  omega
theorem thirds_any (o a b h : Int) (w : World) (ho : 0 ≤ o) (ho' : o < 12) (hg : goodP a b) (h0 : 0 ≤ h) (h1 : h ≤ 1) :
    Calls Tryd.prog 91 #[.int .i64 o, .agg #[.int .i64 a, .int .i64 b, .int .i64 h]] w fun e w' => e = .returned (.tuple #[.int .i64 (thrN o a b h (o % 6).toNat).1, .int .i64 (thrN o a b h (o % 6).toNat).2]) ∧ Below w.heap.size w w' := by
 have hbd := thr_bd o a b h hg h0 h1
 have hb6 : 0 ≤ o % 6 ∧ o % 6 < 6 := by omega
 obtain ⟨hb6, hb7⟩ := hb6
 obtain ⟨g1, g2, g3, g4⟩ := hg
 have w1 : IntKind.i64.wrap (3 * a) = 3 * a := by rw [IntKind.wrap_i64]; omega
 have w2 : IntKind.i64.wrap (3 * a + 1) = 3 * a + 1 := by rw [IntKind.wrap_i64]; omega
 have w3 : IntKind.i64.wrap (3 * a + 1 + h) = 3 * a + 1 + h := by rw [IntKind.wrap_i64]; omega
 have w4 : IntKind.i64.wrap (3 * b) = 3 * b := by rw [IntKind.wrap_i64]; omega
 have w5 : IntKind.i64.wrap (3 * b + 1) = 3 * b + 1 := by rw [IntKind.wrap_i64]; omega
 have w6 : IntKind.i64.wrap (3 * b + 1 + h) = 3 * b + 1 + h := by rw [IntKind.wrap_i64]; omega
 have B := Aside0.mk hbd
 clear hbd
 by_cases h6 : o < 6
 all_goals
  go_enter Tryd.func91, Tryd.ntmps91
  go_wp2_with fail
  go_quiet (fail)
  go_wp2
  go_loopw [6, 7, 30] (fun x y i wr => ∃ k : Nat, k ≤ 6 ∧ (k : Int) ≤ o % 6 ∧ i = .int .i64 k ∧ x = .int .i64 (thrN o a b h k).1 ∧ y = .int .i64 (thrN o a b h k).2 ∧ Below w.heap.size w wr) (fun _ _ i _ => 6 - (intOf i).toNat)
  case atStart => exact ⟨0, by omega, by omega, rfl, by simp only [thrN, thr0]; split <;> first | rfl | omega, by simp only [thrN, thr0]; split <;> first | rfl | omega, pw_below_drewN (below_alloc (Below.refl _ _) _) _⟩
  case round =>
   obtain ⟨k, hk, hk', rfl, rfl, rfl, hB⟩ := hrel
   obtain ⟨⟨b1, b2⟩, ⟨b3, b4⟩⟩ := B.out k hk
   have HB := Aside0.mk hB
   clear hB
   obtain ⟨x, hx⟩ : ∃ x, x = (thrN o a b h k).1 := ⟨_, rfl⟩
   obtain ⟨y, hy⟩ : ∃ y, y = (thrN o a b h k).2 := ⟨_, rfl⟩
   rw [← hx] at b1 b2 ⊢
   rw [← hy] at b3 b4 ⊢
   have XY := Aside0.mk (And.intro hx hy)
   clear hx hy
   by_cases hlt : (k : Int) < o % 6
   ·go_wp2
    go_roundw
    case rel => exact ⟨k + 1, by omega, by omega, by go_num, by rw [XY.out.2]; rfl, by rw [XY.out.1, XY.out.2]; rfl, HB.out⟩
    case measure => simp [intOf]; omega
   ·have hk2 : k = (o % 6).toNat := by omega
    go_wp2
    exact bodyPost_ret (v := .tuple #[.int .i64 x, .int .i64 y]) (by simp [results, Tryd.results91, go_sem]) rfl ⟨by rw [← hk2, ← XY.out.1, ← XY.out.2], HB.out⟩
theorem opgood_any (o : Int) (w : World) : Calls Tryd.prog 44 #[.int .i64 o] w fun e w' => e = .returned (.bool (decide (0 ≤ o ∧ o < 12))) ∧ w' = w := by
 by_cases h : 0 ≤ o ∧ o < 12
 ·rw [decide_eq_true h]
  obtain ⟨h1, h2⟩ := h
  go_enter Tryd.func44, Tryd.ntmps44
  go_wp2
  go_ret
  exact ⟨rfl, rfl⟩
 ·rw [decide_eq_false h]
  go_enter Tryd.func44, Tryd.ntmps44
  go_wp2
  all_goals (first | (exfalso; omega) | (go_ret; exact ⟨by simp; try omega, rfl⟩))
def onT (o a b h : Int) : CL0 := ⟨⟨(thrN o a b h (o % 6).toNat).1 / 3, (thrN o a b h (o % 6).toNat).2 / 3⟩, (thrN o a b h (o % 6).toNat).1 % 3 - 1⟩
theorem onT_any (l o a b h : Int) (w : World) (hl : 2 ≤ l) (hl' : l ≤ 3) (ho : 0 ≤ o) (ho' : o < 12) (hg : goodP a b) (h0 : 0 ≤ h) (h1 : h ≤ 1) :
    Calls Tryd.prog 56 #[.int .i64 l, .int .i64 o, .agg #[.int .i64 a, .int .i64 b, .int .i64 h]] w fun e w' => (if goodP (onT o a b h).f0.f0 (onT o a b h).f0.f1 then e = .returned (.tuple #[.agg #[.int .i64 (onT o a b h).f0.f0, .int .i64 (onT o a b h).f0.f1, .int .i64 (onT o a b h).f1], .nilIface]) else e = .returned (.tuple #[.agg #[.int .i64 0, .int .i64 0, .int .i64 0], errW (some 6)])) ∧ Below w.heap.size w w' := by
 have hc : checkR l a b h = none := by
  unfold checkR
  rw [if_pos ⟨by omega, hl'⟩, if_neg ?_, if_pos hg]
  rw [if_neg (by omega)]
  omega
 have hck := fun W => check_any l a b h W
 simp only [hc, errW_none] at hck
 have hth := fun W => thirds_any o a b h W ho ho' hg h0 h1
 have hbd := thr_bd o a b h hg h0 h1 (o % 6).toNat (by omega)
 have hmd := thr_mod o a b h h0 h1 (o % 6).toNat
 unfold onT
 obtain ⟨x, hx⟩ : ∃ x, x = (thrN o a b h (o % 6).toNat).1 := ⟨_, rfl⟩
 obtain ⟨y, hy⟩ : ∃ y, y = (thrN o a b h (o % 6).toNat).2 := ⟨_, rfl⟩
 simp only [← hx, ← hy] at hth hbd hmd ⊢
 clear hx hy hc hg
 obtain ⟨⟨x1, x2⟩, ⟨y1, y2⟩⟩ := hbd
 obtain ⟨hxy, hm12⟩ := hmd
 have hmx : (x.tmod 3 + 3).tmod 3 = x % 3 := by
  rcases Int.le_total 0 x with hp | hp
  ·rw [Int.tmod_eq_emod_of_nonneg hp, Int.tmod_eq_emod_of_nonneg (by omega)]; omega
  ·have e : x.tmod 3 = -((-x).tmod 3) := by rw [Int.neg_tmod, Int.neg_neg]
   rw [e, Int.tmod_eq_emod_of_nonneg (show 0 ≤ -x by omega), Int.tmod_eq_emod_of_nonneg (by omega)]; omega
 have hbx := tmod_range x 3 (by omega)
 obtain ⟨hbx1, hbx2⟩ := hbx
 have hdiv : ∀ z m : Int, z % 3 = m → (z - 1 - (m - 1)).tdiv 3 = z / 3 := fun z m hz => by
  have e : z - 1 - (m - 1) = 3 * (z / 3) := by omega
  rw [e, Int.mul_tdiv_cancel_left _ (by omega)]
 have hdx := hdiv x (x % 3) rfl
 have hdy := hdiv y (x % 3) hxy.symm
 have hgd := fun W => good_any (x / 3) (y / 3) W
 have hog := fun W => opgood_any o W
 simp only [decide_eq_true (And.intro ho ho')] at hog
 by_cases hgd2 : goodP (x / 3) (y / 3)
 all_goals
  simp only [hgd2, ↓reduceIte, decide_true, decide_false] at hgd ⊢
  go_enter Tryd.func56, Tryd.ntmps56
  go_wp2_with fail
  obtain ⟨w2, hw2, hcc, _, hsz, hB2⟩ := two_new w #[.int .i64 a, .int .i64 b, .int .i64 h] #[.int .i64 0, .int .i64 0, .int .i64 0] 65 65
  have hz0 : w.heap.size < w2.heap.size := by omega
  have hrb : w2.heap[w.heap.size + 1]? = some (.cells #[.int .i64 0, .int .i64 0, .int .i64 0] 65 (0, 0)) := by
   rw [hw2]
   have := blk_new (w.alloc (.cells #[.int .i64 a, .int .i64 b, .int .i64 h] 65)) (.cells #[.int .i64 0, .int .i64 0, .int .i64 0] 65 (0, 0))
   simpa using this
  rw [← hw2]
  clear hw2
  have d0 : w2.cell? ⟨w.heap.size, 0, none⟩ = some (.int .i64 a) := hcc 0 _ rfl
  have d1 : w2.cell? ⟨w.heap.size, 1, none⟩ = some (.int .i64 b) := hcc 1 _ rfl
  have d2 : w2.cell? ⟨w.heap.size, 2, none⟩ = some (.int .i64 h) := hcc 2 _ rfl
  have HB2 := Aside0.mk hB2
  have RB := Aside0.mk hrb
  clear hcc hB2 hrb
  go_wp2_with (first
   | (go_at_call 81; refine (hck _).mono ?_; rintro e w3 ⟨rfl, hb3⟩
      have d0 := pw_cell_below hb3 d0
      have d1 := pw_cell_below hb3 d1
      have d2 := pw_cell_below hb3 d2
      have HB3 := Aside0.mk (hb3))
   | (go_at_call 44; refine (hog _).mono ?_; rintro e w3' ⟨rfl, rfl⟩)
   | (go_at_call 91; refine (hth _).mono ?_; rintro e w4 ⟨rfl, hb4⟩
      have hb24 := HB3.out.trans (hb4.mono HB3.out.size)
      have HB4 := Aside0.mk hb24
      have hz4 := hb24.size
      clear hb4 hb24)
   | (go_at_call 92; refine (hgd _).mono ?_; rintro e w5 ⟨rfl, hb5⟩
      have hb25 := (below_alloc2 HB4.out hz4 _).trans (hb5.mono (by simp; omega))
      have hr5 := blk_below RB.out hb25
      have q0 := blk_cell hr5 0
      have q1 := blk_cell hr5 1
      have q2 := blk_cell hr5 2
      have q3 := blk_frozen hr5
      have HB5 := Aside0.mk hb25
      have hl5 : w4.cell? ⟨0, 0, none⟩ = w4.cell? ⟨0, 0, none⟩ := rfl
      have hcl := fun (p : Addr) hp => hb5.cell (p := p) hp
      have R5 := Aside0.mk hr5
      clear hb5 hl5 hb25 hr5))
 ·have hr := blk_set (blk_set (blk_set R5.out 0 (.int .i64 (x / 3))) 1 (.int .i64 (y / 3))) 2 (.int .i64 (y % 3 - 1))
  refine bodyPost_ret (results_ct rfl _ _ (w.heap.size + 1) 65 #[.int .i64 (x / 3), .int .i64 (y / 3), .int .i64 (y % 3 - 1)] (0, 0) _ rfl hr Tryd.underlying65 rfl (by kernel_rfl)) rfl ⟨by rw [hxy]; rfl, ?_⟩
  exact (Below.setCell (p := ⟨w.heap.size + 1, 2, none⟩) (Below.setCell (p := ⟨w.heap.size + 1, 1, none⟩) (Below.setCell (p := ⟨w.heap.size + 1, 0, none⟩) (HB2.out.trans (HB5.out.mono HB2.out.size)) (Nat.le_succ _) _) (Nat.le_succ _) _) (Nat.le_succ _) _)
 ·have hr := blk_set (blk_set (blk_set R5.out 0 (.int .i64 0)) 1 (.int .i64 0)) 2 (.int .i64 0)
  refine bodyPost_ret (results_ct rfl _ _ (w.heap.size + 1) 65 #[.int .i64 0, .int .i64 0, .int .i64 0] (0, 0) _ rfl hr Tryd.underlying65 rfl (by kernel_rfl)) rfl ⟨rfl, ?_⟩
  exact (Below.setCell (p := ⟨w.heap.size + 1, 2, none⟩) (Below.setCell (p := ⟨w.heap.size + 1, 1, none⟩) (Below.setCell (p := ⟨w.heap.size + 1, 0, none⟩) (HB2.out.trans (HB5.out.mono HB2.out.size)) (Nat.le_succ _) _) (Nat.le_succ _) _) (Nat.le_succ _) _)
end Go.Proofs.YtaeenefdbahfoaaDoor
