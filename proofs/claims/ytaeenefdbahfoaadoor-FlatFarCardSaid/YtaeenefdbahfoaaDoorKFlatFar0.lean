/- Parts of the proof (FlatFar), merged out of our texts by wip/tools/pack.py: WWords, Sort, PAlive, App2, Hhoneycomblaw08FlatFar. -/
import Derived.Below
import Derived.Deep.Draws
import Derived.Deep.AppendLies
import Derived.Maps.AppendAt
import Derived.OwnWalk
import Derived.Laws.BytesArg
import Derived.Laws.MakeOwn
import Derived.Laws.OwnMore
import Derived.Deep.OwnRows
import Derived.Tactics
import Derived.Lib.ConvBytes
import Derived.Laws.Slices
import Derived.WalkKit
import Derived.KernelRfl
import Derived.RowKit3
import Derived.Deep.LoopGhost
import Derived.Deep.QuietTactic
import Derived.BigQuiet
import Derived.WideLaws
import Derived.Deep.DeepCutAuto
import Derived.Deep.CutBlock
import Derived.Deep.RegionHeld3
import Derived.Laws.Rows
import Derived.Lib.AppendStr
import Derived.ArgAppend
import Derived.Laws.IdiomCopy
import Derived.RowKit
import Derived.Shelf.SlSortCmp.NoneTotal
import Derived.Shelf.SlSortCmp.WholeK
import Derived.Shelf.Lay
import Derived.Test.YtaeenefdbahfoaaDoorKFlatShift0
import Derived.Test.YtaeenefdbahfoaaDoorKFlatShift1
import Derived.Test.YtaeenefdbahfoaaDoorKFlatShift2
import Derived.Test.YtaeenefdbahfoaaDoorKFlatShift3
import Derived.Test.YtaeenefdbahfoaaDoorKFlatShift4
import Derived.Test.YtaeenefdbahfoaaDoorKFlatShift5
import Derived.Test.YtaeenefdbahfoaaDoorKFlatShift6
import Derived.Test.YtaeenefdbahfoaaDoorKFlatShift7
import Derived.Test.YtaeenefdbahfoaaDoorKFlatShift8
import Derived.Test.YtaeenefdbahfoaaDoorKFlatShift9
import Derived.Test.YtaeenefdbahfoaaDoorKFlatShift10
set_option linter.unusedVariables false
set_option linter.unusedSimpArgs false
namespace Go.Proofs.YtaeenefdbahfoaaDoorW.PrintWords
open Go.RowKit







def bt (s : ByteArray) (i : Int) : Int := if h : i.toNat < s.size then ((s[i.toNat]'h).toNat : Int) else 0














section
variable {P : Program} {ops : Array Oper} {rest : List Oper} {o : Oper} {a : Act} {Q : Exit → Act → World → Prop}
end
section
variable {P : Program}
end
section
variable {P : Program} {ops : Array Oper} {rest : List Oper} {o : Oper} {a : Act} {Q : Exit → Act → World → Prop}
end



















section
variable {P : Program} {ops : Array Oper} {rest : List Oper} {o : Oper} {a : Act} {Q : Exit → Act → World → Prop}

end



















section
variable {P : Program} {ops : Array Oper} {o : Oper} {a : Act} {Q : Exit → Act → World → Prop} {K : Act → World → Prop}

end

section
variable {α : Type} {enc : α → Value} {d : α}





end
section
variable {α : Type} {P : Program} {ops : Array Oper} {rest : List Oper} {o : Oper} {a : Act} {Q : Exit → Act → World → Prop}
end




section
variable {P : Program}

end


section
variable {α : Type} {R R' : α → List Value → Prop} {e : TypeId} {size : Nat} {w w1 : World} {base : Nat} {v : Value} {ps : List α}







end
section
variable {P : Program} {ops : Array Oper} {rest : List Oper} {o : Oper} {a : Act} {Q : Exit → Act → World → Prop} {α : Type} {R : α → List Value → Prop}

end
section
variable {P : Program} {ops : Array Oper} {o : Oper} {a : Act} {Q : Exit → Act → World → Prop} {K : Act → World → Prop} {α : Type} {R : α → List Value → Prop}
end

section
variable {α : Type} {P : Program}

end
section
variable {P : Program} {ops : Array Oper} {rest : List Oper} {o : Oper} {a : Act} {Q : Exit → Act → World → Prop}
end



namespace Kd


section
variable {α : Type} {d : Kd α} {e : Nat} {w w1 : World} {base : Nat} {ok ok' : Nat → Prop} {v : Value} {xs : List α}
















end











section
variable {P : Program} {ops : Array Oper} {rest : List Oper} {o : Oper} {a : Act} {Q : Exit → Act → World → Prop} {α : Type}

end
section
variable {P : Program} {ops : Array Oper} {o : Oper} {a : Act} {Q : Exit → Act → World → Prop} {Kc : Act → World → Prop} {α : Type}

end
end Kd
namespace Kd

section
variable {α : Type} {F : Kd α → Kd α} {sz : Nat} {E : List Nat} {hs : ∀ n, (upto F sz E n).sz = sz} {hE : ∀ n q, q ∈ (upto F sz E n).E → q ∈ E}
end
end Kd
namespace Kd

end Kd
namespace Kd
section
variable {α β : Type} {d : Kd α} {d' : Kd β} {e e' : Nat} {w w1 W : World} {base b b' : Nat} {ok ok' okv oku : Nat → Prop} {v u : Value} {xs : List α} {ys : List β}










end
section
variable {w W : World} {A : Option Addr} {n : Nat}
variable {α : Type} {enc : α → Value} {h1 : ∀ x, (enc x).oneCell' = true} {e base g cap : Nat} {ok : Nat → Prop} {xs : List α}
end
section
variable {P : Program} {ops : Array Oper} {rest : List Oper} {o : Oper} {a : Act} {Q : Exit → Act → World → Prop}

variable {α : Type}

end
end Kd
section
variable {P : Program}
end

section
variable {w w1 : World} {base n size : Nat} {e : TypeId} {v : Value} {xs : List Value}

end
section
variable {P : Program}
end
namespace Kd

section
variable {α : Type} {d : Kd α} {e : Nat} {w w1 W : World} {base : Nat} {ok ok' : Nat → Prop} {v : Value} {xs : List α}


end
section
variable {P : Program} {ops : Array Oper} {rest : List Oper} {o : Oper} {a : Act} {Q' : Exit → Act → World → Prop} {Kc : Act → World → Prop} {α : Type}
end
end Kd
namespace Kd
section
variable {α : Type} {d : Kd α} {e e' : Nat} {w w1 W : World} {base : Nat} {ok : Nat → Prop} {u v : Value} {xs : List α}





end
end Kd
namespace Kd
section
variable {α : Type} {d : Kd α} {e base g n cap : Nat} {ok okp : Nat → Prop} {W : World} {xs : List α}
end
end Kd
namespace Kd
section
variable {α : Type} {F : Kd α → Kd α} {sz : Nat} {E : List Nat} {hs : ∀ n, (upto F sz E n).sz = sz} {hE : ∀ n q, q ∈ (upto F sz E n).E → q ∈ E}
end
end Kd
namespace Kd

section
variable {P : Program} {ops : Array Oper} {rest : List Oper} {o : Oper} {a : Act} {Q : Exit → Act → World → Prop} {α : Type}

end
end Kd
namespace Kd
section
variable {P : Program} {ops : Array Oper} {rest : List Oper} {o : Oper} {a : Act} {Q : Exit → Act → World → Prop} {α : Type}
end
end Kd

namespace Kd
section
variable {α : Type} {k : Kd α} {w : World} {A : Option Addr} {xs : List α} {m c : Nat}
end
end Kd
section
variable {P : Program}
end













namespace Kd
section
variable {α β : Type} {d : Kd α} {d' : Kd β} {e e' base base' n : Nat} {ok ok' : Nat → Prop} {w W w1 W1 : World} {v u : Value} {xs : List α} {ys : List β} {A : Option Addr} {c : Nat}
end
section
variable {α : Type} {enc : α → Value} {h1 : ∀ x, (enc x).oneCell' = true} {w W : World} {A : Option Addr} {n g : Nat} {xs : List α}
end
end Kd
namespace Kd
section
variable {α : Type} {d : Kd α} {e base g : Nat} {ok : Nat → Prop} {w w1 : World} {v : Value} {xs : List α} {o : Obj}

end
end Kd
section
variable {P : Program} {ops : Array Oper} {rest : List Oper} {o : Oper} {a : Act} {Q : Exit → Act → World → Prop}

end
namespace Kd
section
variable {α : Type} {enc : α → Value} {h1 : ∀ x, (enc x).oneCell' = true} {e base g n cap : Nat} {ok : Nat → Prop} {W : World} {xs : List α}
end
end Kd
section
variable {P : Program} {ops : Array Oper} {rest : List Oper} {o : Oper} {a : Act} {Q : Exit → Act → World → Prop}
end
namespace Kd
section
variable {α : Type} {enc : α → Value} {h1 : ∀ x, (enc x).oneCell' = true} {e base g n cap : Nat} {ok : Nat → Prop} {W : World} {xs : List α}
end
end Kd
section
variable {P : Program} {ops : Array Oper} {rest : List Oper} {o : Oper} {a : Act} {Q : Exit → Act → World → Prop} {W : World}

end
section
variable {P : Program} {ops : Array Oper} {o : Oper} {a : Act} {Q : Exit → Act → World → Prop} {Kc : Act → World → Prop}

namespace Kd
variable {α : Type}


end Kd
end

section
variable {P : Program} {tmps : Array Value} {w : World}
end
namespace Kd
section
variable {P : Program} {α : Type}
end
section
variable {P : Program} {ops : Array Oper} {rest : List Oper} {o : Oper} {a : Act} {Q : Exit → Act → World → Prop} {Kc : Act → World → Prop} {α : Type}
end
end Kd
end Go.Proofs.YtaeenefdbahfoaaDoorW.PrintWords
namespace Go.Proofs.YtaeenefdbahfoaaDoor
open Go.RowKit Go.Proofs.YtaeenefdbahfoaaDoorW.PrintWords Go.Proofs.YtaeenefdbahfoaaDoorW.PrintLast Go.Proofs.YtaeenefdbahfoaaDoorW.PrintMore
open H
open Go.Shelf Go.RowKit Go.Lib Go.Sort



deriving instance DecidableEq for S63
deriving instance DecidableEq for S65


set_option linter.unusedSimpArgs false
section
variable {w w1 : World} {g cap : Nat} {d : Array S65}







end








end Go.Proofs.YtaeenefdbahfoaaDoor
namespace Go.Proofs.YtaeenefdbahfoaaDoor
open Go.RowKit Go.Proofs.YtaeenefdbahfoaaDoorW.PrintWords Go.Proofs.YtaeenefdbahfoaaDoorW.PrintLast Go.Proofs.YtaeenefdbahfoaaDoorW.PrintMore
open H




























































/-- where two sets are alike around a cell, it lives in both or in none -/
theorem next_local (nx : Rul) (l : Int) (hl : 1 ≤ l ∧ l ≤ 3) (h0 : ∀ h, nx h false 0 = false) (s s' : List CL) (hn : s.Nodup) (hs : ∀ c ∈ s, hOK l c.f1) (hn' : s'.Nodup) (hs' : ∀ c ∈ s', hOK l c.f1) (x : CL)
    (h : ∀ d : CL, x.f0.f0 - 1 ≤ d.f0.f0 → d.f0.f0 ≤ x.f0.f0 + 1 → x.f0.f1 - 1 ≤ d.f0.f1 → d.f0.f1 ≤ x.f0.f1 + 1 → (d ∈ s ↔ d ∈ s')) : x ∈ nextL nx l s ↔ x ∈ nextL nx l s' := by
  rw [next_mem nx l hl h0 s hn hs, next_mem nx l hl h0 s' hn' hs']
  by_cases hok : hOK l x.f1
  · rw [ngh_congr l s s' x (fun d hd => by obtain ⟨h1, h2, h3, h4⟩ := bes_near l x d hl hok hd; exact h d h1 h2 h3 h4)]
    rw [decide_eq_decide.2 (h x (by omega) (by omega) (by omega) (by omega))]
  · exact ⟨fun h => absurd h.1 hok, fun h => absurd h.1 hok⟩










end Go.Proofs.YtaeenefdbahfoaaDoor
namespace Go.Proofs.YtaeenefdbahfoaaDoor
open Go.RowKit Go.Proofs.YtaeenefdbahfoaaDoorW.PrintWords Go.Proofs.YtaeenefdbahfoaaDoorW.PrintLast Go.Proofs.YtaeenefdbahfoaaDoorW.PrintMore
open H
open Go.RowKit
theorem append_two {P : Program} {W : World} (t t2 e e2 ty : TypeId) (v x : Value) (ht : P.underlying t = some (.slice e)) (ht2 : P.underlying t2 = some (.slice e2)) :
    (Builtin.append_ #[t, t2] ty #[v, x]).run P W = (Builtin.append_ #[t, t] ty #[v, x]).run P W := by
  cases v <;> simp [Builtin.append_, run_underlying ht, run_underlying ht2, Sem.run_bind]
theorem app_rows2 {P : Program} {ops : Array Oper} {o : Oper} {a : Act} {Q : Exit → Act → World → Prop} {Kc : Act → World → Prop} {α : Type} (t2 e2 : TypeId) (d : Kd α) {Rr : α → List Value → Prop} {w0 W : World} (base : Nat) (hw : Region.wanted o (yielded ops a.tmps) = true) (s x : Operand) (t e : TypeId) (z : Value) (bytes : Nat)
    (ho : o.op = .call { callee := .builtin .append, args := #[s, x], argTypes := #[t, t2] }) (ht2 : P.underlying t2 = some (.slice e2))
    (ht : P.underlying t = some (.slice e)) (hinfo : (P.info? e).map (fun i => (i.zero, i.size, i.bytes)) = some (some z, d.sz, bytes)) (hz : z.cells.size = d.sz) (hs0 : 0 < d.sz) (hb0 : 0 < bytes)
    (v : Value) (xs ys : List α) (A : Option Addr) (m c : Nat) (ok okp : Nat → Prop) (hs : a.eval s = v) (hx : a.eval x = .slice A m c)
    (HO : d.R e W base ok v xs) (HR : ReadsRow Rr d.sz W A m ys) (hKM : ∀ x cs, Rr x cs → d.M W base okp x cs) (hokp : ∀ k, okp k → ok k ∧ some k ≠ v.ownBlock) (hfresh : ∀ k, W.heap.size ≤ k → ok k)
    (HB : Below base w0 W) (hbase : base ≤ W.heap.size) (hl : (xs.length + m) * bytes ≤ 140737488355328)
    (h : ∀ v1 w1, d.R e w1 base ok v1 (xs ++ ys) → Below base w0 w1 → W.grownBy w1 v.ownBlock → (v1.ownBlock = v.ownBlock ∨ ∃ b, v1.ownBlock = some b ∧ W.heap.size ≤ b) → Kc (a.put o.dst v1) w1) :
    if Region.wanted o (yielded ops a.tmps) = true then Oper.wp P o a W Kc Q else Kc (a.put o.dst undef) W := by
  have key := Kd.R_append_rows_step (P := P) (ops := #[]) (o := { o with op := .call { callee := .builtin .append, args := #[s, x], argTypes := #[t, t] }, guard := none, dst := o.dst }) (a := a) (Q := Q) (Kc := Kc) d (Rr := Rr) (w0 := w0) base (by simp [Region.wanted]) s x t e z bytes rfl ht hinfo hz hs0 hb0 v xs ys A m c ok okp hs hx HO HR hKM hokp hfresh HB hbase hl h
  rw [if_pos (by simp [Region.wanted])] at key
  rw [if_pos hw]
  unfold Oper.wp execOp at key ⊢
  simp only [ho, resolve, invoke, builtin, Sem.run_bind, Sem.run_pure, Result.andThen_ok, List.map_toArray, List.map_cons, List.map_nil, hs, hx, append_two t t2 e e2 _ _ _ ht ht2] at key ⊢
  exact key
theorem app_rows2p {P : Program} {ops : Array Oper} {rest : List Oper} {o : Oper} {a : Act} {Q : Exit → Act → World → Prop} {α : Type} (t2 e2 : TypeId) (d : Kd α) {Rr : α → List Value → Prop} {w0 W : World} (base : Nat) (hgd : o.guard = none) (s x : Operand) (t e : TypeId) (z : Value) (bytes : Nat)
    (ho : o.op = .call { callee := .builtin .append, args := #[s, x], argTypes := #[t, t2] }) (ht2 : P.underlying t2 = some (.slice e2))
    (ht : P.underlying t = some (.slice e)) (hinfo : (P.info? e).map (fun i => (i.zero, i.size, i.bytes)) = some (some z, d.sz, bytes)) (hz : z.cells.size = d.sz) (hs0 : 0 < d.sz) (hb0 : 0 < bytes)
    (v : Value) (xs ys : List α) (A : Option Addr) (m c : Nat) (ok okp : Nat → Prop) (hs : a.eval s = v) (hx : a.eval x = .slice A m c)
    (HO : d.R e W base ok v xs) (HR : ReadsRow Rr d.sz W A m ys) (hKM : ∀ x cs, Rr x cs → d.M W base okp x cs) (hokp : ∀ k, okp k → ok k ∧ some k ≠ v.ownBlock) (hfresh : ∀ k, W.heap.size ≤ k → ok k)
    (HB : Below base w0 W) (hbase : base ≤ W.heap.size) (hl : (xs.length + m) * bytes ≤ 140737488355328)
    (h : ∀ v1 w1, d.R e w1 base ok v1 (xs ++ ys) → Below base w0 w1 → W.grownBy w1 v.ownBlock → (v1.ownBlock = v.ownBlock ∨ ∃ b, v1.ownBlock = some b ∧ W.heap.size ≤ b) → wpList P ops Q rest (a.put o.dst v1) w1) :
    wpList P ops Q (o :: rest) a W := by
  refine wpList_plain hgd fun Kc hK' => ?_
  have key := app_rows2 (P := P) (ops := #[]) (o := { o with guard := none }) (a := a) (Q := Q) (Kc := Kc) t2 e2 d (Rr := Rr) (w0 := w0) base (by simp [Region.wanted]) s x t e z bytes ho ht2 ht hinfo hz hs0 hb0 v xs ys A m c ok okp hs hx HO HR hKM hokp hfresh HB hbase hl (fun v1 w1 h1 h2 h3 h4 => hK' _ _ (h v1 w1 h1 h2 h3 h4))
  rw [if_pos (by simp [Region.wanted])] at key
  exact key
end Go.Proofs.YtaeenefdbahfoaaDoor
namespace Go.Proofs.YtaeenefdbahfoaaDoor.H
open Go.RowKit Go.Proofs.YtaeenefdbahfoaaDoorW.PrintWords Go.Proofs.YtaeenefdbahfoaaDoorW.PrintLast Go.Proofs.YtaeenefdbahfoaaDoorW.PrintMore
attribute [local go_sem] max2_int min2_int max_two min_two max_three min_three max_four min_four   -- for this text's walks alone
set_option linter.unusedVariables false
set_option linter.unusedSimpArgs false
def honeycomblaw08_FlatFar.f (k : Nat) (a0_0 : Int) (a0_1 : Int) (a0_2 : Int) (a0_3 : Int) (a0_4 : Int) (l1 : List (S60)) (l2 : List (S60)) (a3 : Int) : Option (Bool) := (honeycomblaw08_awake.f k).bind fun t614 => (if t614 = true then ((XSome5.f a0_0 a0_1 a0_2 a0_3 a0_4).bind fun bt615 => ((honeycomblaw08_Few.f k bt615.1 l1).bind fun t621 => ((honeycomblaw08_Few.f k bt615.1 l2).bind fun t624 => ((XShift.f t624 100 (-50)).bind fun bt627 => ((some (([] : List (S65)) : List (S65))).bind fun y631 => (if y631.length + t621.length < 5864062014805 then ((some (y631 ++ t621 : List (S65))).bind fun y634 => (if y634.length + bt627.1.length < 5864062014805 then ((XOf.f (y634 ++ bt627.1)).bind fun t640 => ((flat_Steps.f k bt615.1 bt615.2.1 bt615.2.2.1 bt615.2.2.2.1 bt615.2.2.2.2 t640 (Int.tmod (Go.bits .and .i64 a3 255) 5)).bind fun bt643 => ((flat_Steps.f k bt615.1 bt615.2.1 bt615.2.2.1 bt615.2.2.2.1 bt615.2.2.2.2 t621 (Int.tmod (Go.bits .and .i64 a3 255) 5)).bind fun bt647 => ((flat_Steps.f k bt615.1 bt615.2.1 bt615.2.2.1 bt615.2.2.2.1 bt615.2.2.2.2 bt627.1 (Int.tmod (Go.bits .and .i64 a3 255) 5)).bind fun bt651 => (if bt627.2.isNone = true then (if bt643.2.isNone = true then (if bt647.2.isNone = true then (if bt651.2.isNone = true then ((some (([] : List (S65)) : List (S65))).bind fun y659 => (if y659.length + bt647.1.length < 5864062014805 then ((some (y659 ++ bt647.1 : List (S65))).bind fun y662 => (if y662.length + bt651.1.length < 5864062014805 then ((XOf.f (y662 ++ bt651.1)).bind fun t668 => ((set_Set_Same.f k bt643.1 t668).bind fun t671 => (some t671))) else (none))) else (none))) else (some false)) else (some false)) else (some false)) else (some false)))))) else (none))) else (none))))))) else (some false))
def honeycomblaw08_FlatFar.T7 : Bool × List (List Nat × List Nat) := (true, [([], []), ([], []), ([], []), ([1, 2], [1, 2]), ([], []), ([3, 4, 3], [3, 4]), ([5, 5], [5]), ([], []), ([0, 6, 7, 6], [0, 6, 7]), ([8], [8]), ([9], [9]), ([9], [9]), ([10, 8, 0, 1, 2, 3, 4, 5, 6, 7, 8, 9, 10], [10]), ([11, 12, 0, 1, 2, 3, 4, 5, 6, 7, 8, 9, 10, 11, 12], [11])])
def honeycomblaw08_FlatFar.B7 : List Nat := [0, 0, 0, 6, 0, 30, 62, 0, 255, 511, 1023, 1023, 2047, 8191]
theorem honeycomblaw08_FlatFar.tab7 : rtab .any (opsOf Tryd.f6 7) = honeycomblaw08_FlatFar.T7 := by kernel_rfl
theorem honeycomblaw08_FlatFar.bits7 : waitsOk honeycomblaw08_FlatFar.T7.2 honeycomblaw08_FlatFar.B7 = true := by kernel_rfl
set_option maxHeartbeats 8000000 in
set_option maxRecDepth 100000 in
theorem honeycomblaw08_FlatFar.calls (k : Nat) (a0_0 : Int) (a0_1 : Int) (a0_2 : Int) (a0_3 : Int) (a0_4 : Int) (A1 : Option Addr) (c1 : Nat) (l1 : List (S60)) (A2 : Option Addr) (c2 : Nat) (l2 : List (S60)) (a3 : Int) (r : Bool) (w : World) (hGSix : Six w) (hr1 : Kd.C k60 w A1 l1.length l1) (hc1 : l1.length ≤ c1) (hr2 : Kd.C k60 w A2 l2.length l2) (hc2 : l2.length ≤ c2) (h : honeycomblaw08_FlatFar.f k a0_0 a0_1 a0_2 a0_3 a0_4 l1 l2 a3 = some r) (hr_ : r = true) :
  Calls Tryd.prog 6 #[.agg #[.int .i64 a0_0, .int .u64 a0_1, .int .u64 a0_2, .int .u64 a0_3, .int .u64 a0_4], .slice A1 l1.length c1, .slice A2 l2.length c2, .int .i64 a3] w fun e w' => e = .returned (.bool r) ∧ Below w.heap.size w w' := by
 have Hr_ := Aside0.mk hr_
 clear hr_
 have hu25 := Tryd.underlying25
 have hu29 := Tryd.underlying29
 have hu63 := Tryd.underlying63
 have hu39 := Tryd.underlying39
 have hu87 := Tryd.underlying87
 have HR1 := Aside0.mk hr1
 have HC1 := Aside0.mk hc1
 clear hr1 hc1
 have HR2 := Aside0.mk hr2
 have HC2 := Aside0.mk hc2
 clear hr2 hc2
 have HB := Aside0.mk (Below.refl w.heap.size w)
 have HGSix := Aside0.mk hGSix
 clear hGSix
 have H : ((honeycomblaw08_awake.f k).bind fun t614 => (if t614 = true then ((XSome5.f a0_0 a0_1 a0_2 a0_3 a0_4).bind fun bt615 => ((honeycomblaw08_Few.f k bt615.1 l1).bind fun t621 => ((honeycomblaw08_Few.f k bt615.1 l2).bind fun t624 => ((XShift.f t624 100 (-50)).bind fun bt627 => ((some (([] : List (S65)) : List (S65))).bind fun y631 => (if y631.length + t621.length < 5864062014805 then ((some (y631 ++ t621 : List (S65))).bind fun y634 => (if y634.length + bt627.1.length < 5864062014805 then ((XOf.f (y634 ++ bt627.1)).bind fun t640 => ((flat_Steps.f k bt615.1 bt615.2.1 bt615.2.2.1 bt615.2.2.2.1 bt615.2.2.2.2 t640 (Int.tmod (Go.bits .and .i64 a3 255) 5)).bind fun bt643 => ((flat_Steps.f k bt615.1 bt615.2.1 bt615.2.2.1 bt615.2.2.2.1 bt615.2.2.2.2 t621 (Int.tmod (Go.bits .and .i64 a3 255) 5)).bind fun bt647 => ((flat_Steps.f k bt615.1 bt615.2.1 bt615.2.2.1 bt615.2.2.2.1 bt615.2.2.2.2 bt627.1 (Int.tmod (Go.bits .and .i64 a3 255) 5)).bind fun bt651 => (if bt627.2.isNone = true then (if bt643.2.isNone = true then (if bt647.2.isNone = true then (if bt651.2.isNone = true then ((some (([] : List (S65)) : List (S65))).bind fun y659 => (if y659.length + bt647.1.length < 5864062014805 then ((some (y659 ++ bt647.1 : List (S65))).bind fun y662 => (if y662.length + bt651.1.length < 5864062014805 then ((XOf.f (y662 ++ bt651.1)).bind fun t668 => ((set_Set_Same.f k bt643.1 t668).bind fun t671 => (some t671))) else (none))) else (none))) else (some false)) else (some false)) else (some false)) else (some false)))))) else (none))) else (none))))))) else (some false))) = some r := h
 clear h
 replace H := Option.bind_eq_some_iff.mp H
 obtain ⟨t614, A50, H⟩ := H
 replace H : (if t614 = true then ((XSome5.f a0_0 a0_1 a0_2 a0_3 a0_4).bind fun bt615 => ((honeycomblaw08_Few.f k bt615.1 l1).bind fun t621 => ((honeycomblaw08_Few.f k bt615.1 l2).bind fun t624 => ((XShift.f t624 100 (-50)).bind fun bt627 => ((some (([] : List (S65)) : List (S65))).bind fun y631 => (if y631.length + t621.length < 5864062014805 then ((some (y631 ++ t621 : List (S65))).bind fun y634 => (if y634.length + bt627.1.length < 5864062014805 then ((XOf.f (y634 ++ bt627.1)).bind fun t640 => ((flat_Steps.f k bt615.1 bt615.2.1 bt615.2.2.1 bt615.2.2.2.1 bt615.2.2.2.2 t640 (Int.tmod (Go.bits .and .i64 a3 255) 5)).bind fun bt643 => ((flat_Steps.f k bt615.1 bt615.2.1 bt615.2.2.1 bt615.2.2.2.1 bt615.2.2.2.2 t621 (Int.tmod (Go.bits .and .i64 a3 255) 5)).bind fun bt647 => ((flat_Steps.f k bt615.1 bt615.2.1 bt615.2.2.1 bt615.2.2.2.1 bt615.2.2.2.2 bt627.1 (Int.tmod (Go.bits .and .i64 a3 255) 5)).bind fun bt651 => (if bt627.2.isNone = true then (if bt643.2.isNone = true then (if bt647.2.isNone = true then (if bt651.2.isNone = true then ((some (([] : List (S65)) : List (S65))).bind fun y659 => (if y659.length + bt647.1.length < 5864062014805 then ((some (y659 ++ bt647.1 : List (S65))).bind fun y662 => (if y662.length + bt651.1.length < 5864062014805 then ((XOf.f (y662 ++ bt651.1)).bind fun t668 => ((set_Set_Same.f k bt643.1 t668).bind fun t671 => (some t671))) else (none))) else (none))) else (some false)) else (some false)) else (some false)) else (some false)))))) else (none))) else (none))))))) else (some false)) = some r := H
 have A5 := Aside0.mk A50
 clear A50
 by_cases c6 : t614 = true
 ·
  subst c6
  have H1 : ((XSome5.f a0_0 a0_1 a0_2 a0_3 a0_4).bind fun bt615 => ((honeycomblaw08_Few.f k bt615.1 l1).bind fun t621 => ((honeycomblaw08_Few.f k bt615.1 l2).bind fun t624 => ((XShift.f t624 100 (-50)).bind fun bt627 => ((some (([] : List (S65)) : List (S65))).bind fun y631 => (if y631.length + t621.length < 5864062014805 then ((some (y631 ++ t621 : List (S65))).bind fun y634 => (if y634.length + bt627.1.length < 5864062014805 then ((XOf.f (y634 ++ bt627.1)).bind fun t640 => ((flat_Steps.f k bt615.1 bt615.2.1 bt615.2.2.1 bt615.2.2.2.1 bt615.2.2.2.2 t640 (Int.tmod (Go.bits .and .i64 a3 255) 5)).bind fun bt643 => ((flat_Steps.f k bt615.1 bt615.2.1 bt615.2.2.1 bt615.2.2.2.1 bt615.2.2.2.2 t621 (Int.tmod (Go.bits .and .i64 a3 255) 5)).bind fun bt647 => ((flat_Steps.f k bt615.1 bt615.2.1 bt615.2.2.1 bt615.2.2.2.1 bt615.2.2.2.2 bt627.1 (Int.tmod (Go.bits .and .i64 a3 255) 5)).bind fun bt651 => (if bt627.2.isNone = true then (if bt643.2.isNone = true then (if bt647.2.isNone = true then (if bt651.2.isNone = true then ((some (([] : List (S65)) : List (S65))).bind fun y659 => (if y659.length + bt647.1.length < 5864062014805 then ((some (y659 ++ bt647.1 : List (S65))).bind fun y662 => (if y662.length + bt651.1.length < 5864062014805 then ((XOf.f (y662 ++ bt651.1)).bind fun t668 => ((set_Set_Same.f k bt643.1 t668).bind fun t671 => (some t671))) else (none))) else (none))) else (some false)) else (some false)) else (some false)) else (some false)))))) else (none))) else (none))))))) = some r := by rw [if_pos rfl] at H; exact H
  clear H
  have H := H1
  clear H1
  replace H := Option.bind_eq_some_iff.mp H
  obtain ⟨⟨t615, t616, t617, t618, t619⟩, A70, H⟩ := H
  replace H : ((honeycomblaw08_Few.f k t615 l1).bind fun t621 => ((honeycomblaw08_Few.f k t615 l2).bind fun t624 => ((XShift.f t624 100 (-50)).bind fun bt627 => ((some (([] : List (S65)) : List (S65))).bind fun y631 => (if y631.length + t621.length < 5864062014805 then ((some (y631 ++ t621 : List (S65))).bind fun y634 => (if y634.length + bt627.1.length < 5864062014805 then ((XOf.f (y634 ++ bt627.1)).bind fun t640 => ((flat_Steps.f k t615 t616 t617 t618 t619 t640 (Int.tmod (Go.bits .and .i64 a3 255) 5)).bind fun bt643 => ((flat_Steps.f k t615 t616 t617 t618 t619 t621 (Int.tmod (Go.bits .and .i64 a3 255) 5)).bind fun bt647 => ((flat_Steps.f k t615 t616 t617 t618 t619 bt627.1 (Int.tmod (Go.bits .and .i64 a3 255) 5)).bind fun bt651 => (if bt627.2.isNone = true then (if bt643.2.isNone = true then (if bt647.2.isNone = true then (if bt651.2.isNone = true then ((some (([] : List (S65)) : List (S65))).bind fun y659 => (if y659.length + bt647.1.length < 5864062014805 then ((some (y659 ++ bt647.1 : List (S65))).bind fun y662 => (if y662.length + bt651.1.length < 5864062014805 then ((XOf.f (y662 ++ bt651.1)).bind fun t668 => ((set_Set_Same.f k bt643.1 t668).bind fun t671 => (some t671))) else (none))) else (none))) else (some false)) else (some false)) else (some false)) else (some false)))))) else (none))) else (none)))))) = some r := H
  have A7 := Aside0.mk A70
  clear A70
  replace H := Option.bind_eq_some_iff.mp H
  obtain ⟨t621, A80, H⟩ := H
  replace H : ((honeycomblaw08_Few.f k t615 l2).bind fun t624 => ((XShift.f t624 100 (-50)).bind fun bt627 => ((some (([] : List (S65)) : List (S65))).bind fun y631 => (if y631.length + t621.length < 5864062014805 then ((some (y631 ++ t621 : List (S65))).bind fun y634 => (if y634.length + bt627.1.length < 5864062014805 then ((XOf.f (y634 ++ bt627.1)).bind fun t640 => ((flat_Steps.f k t615 t616 t617 t618 t619 t640 (Int.tmod (Go.bits .and .i64 a3 255) 5)).bind fun bt643 => ((flat_Steps.f k t615 t616 t617 t618 t619 t621 (Int.tmod (Go.bits .and .i64 a3 255) 5)).bind fun bt647 => ((flat_Steps.f k t615 t616 t617 t618 t619 bt627.1 (Int.tmod (Go.bits .and .i64 a3 255) 5)).bind fun bt651 => (if bt627.2.isNone = true then (if bt643.2.isNone = true then (if bt647.2.isNone = true then (if bt651.2.isNone = true then ((some (([] : List (S65)) : List (S65))).bind fun y659 => (if y659.length + bt647.1.length < 5864062014805 then ((some (y659 ++ bt647.1 : List (S65))).bind fun y662 => (if y662.length + bt651.1.length < 5864062014805 then ((XOf.f (y662 ++ bt651.1)).bind fun t668 => ((set_Set_Same.f k bt643.1 t668).bind fun t671 => (some t671))) else (none))) else (none))) else (some false)) else (some false)) else (some false)) else (some false)))))) else (none))) else (none))))) = some r := H
  have A8 := Aside0.mk A80
  clear A80
  replace H := Option.bind_eq_some_iff.mp H
  obtain ⟨t624, A90, H⟩ := H
  replace H : ((XShift.f t624 100 (-50)).bind fun bt627 => ((some (([] : List (S65)) : List (S65))).bind fun y631 => (if y631.length + t621.length < 5864062014805 then ((some (y631 ++ t621 : List (S65))).bind fun y634 => (if y634.length + bt627.1.length < 5864062014805 then ((XOf.f (y634 ++ bt627.1)).bind fun t640 => ((flat_Steps.f k t615 t616 t617 t618 t619 t640 (Int.tmod (Go.bits .and .i64 a3 255) 5)).bind fun bt643 => ((flat_Steps.f k t615 t616 t617 t618 t619 t621 (Int.tmod (Go.bits .and .i64 a3 255) 5)).bind fun bt647 => ((flat_Steps.f k t615 t616 t617 t618 t619 bt627.1 (Int.tmod (Go.bits .and .i64 a3 255) 5)).bind fun bt651 => (if bt627.2.isNone = true then (if bt643.2.isNone = true then (if bt647.2.isNone = true then (if bt651.2.isNone = true then ((some (([] : List (S65)) : List (S65))).bind fun y659 => (if y659.length + bt647.1.length < 5864062014805 then ((some (y659 ++ bt647.1 : List (S65))).bind fun y662 => (if y662.length + bt651.1.length < 5864062014805 then ((XOf.f (y662 ++ bt651.1)).bind fun t668 => ((set_Set_Same.f k bt643.1 t668).bind fun t671 => (some t671))) else (none))) else (none))) else (some false)) else (some false)) else (some false)) else (some false)))))) else (none))) else (none)))) = some r := H
  have A9 := Aside0.mk A90
  clear A90
  replace H := Option.bind_eq_some_iff.mp H
  obtain ⟨⟨t627, t630⟩, A100, H⟩ := H
  replace H : ((some (([] : List (S65)) : List (S65))).bind fun y631 => (if y631.length + t621.length < 5864062014805 then ((some (y631 ++ t621 : List (S65))).bind fun y634 => (if y634.length + t627.length < 5864062014805 then ((XOf.f (y634 ++ t627)).bind fun t640 => ((flat_Steps.f k t615 t616 t617 t618 t619 t640 (Int.tmod (Go.bits .and .i64 a3 255) 5)).bind fun bt643 => ((flat_Steps.f k t615 t616 t617 t618 t619 t621 (Int.tmod (Go.bits .and .i64 a3 255) 5)).bind fun bt647 => ((flat_Steps.f k t615 t616 t617 t618 t619 t627 (Int.tmod (Go.bits .and .i64 a3 255) 5)).bind fun bt651 => (if t630.isNone = true then (if bt643.2.isNone = true then (if bt647.2.isNone = true then (if bt651.2.isNone = true then ((some (([] : List (S65)) : List (S65))).bind fun y659 => (if y659.length + bt647.1.length < 5864062014805 then ((some (y659 ++ bt647.1 : List (S65))).bind fun y662 => (if y662.length + bt651.1.length < 5864062014805 then ((XOf.f (y662 ++ bt651.1)).bind fun t668 => ((set_Set_Same.f k bt643.1 t668).bind fun t671 => (some t671))) else (none))) else (none))) else (some false)) else (some false)) else (some false)) else (some false)))))) else (none))) else (none))) = some r := H
  have A10 := Aside0.mk A100
  clear A100
  obtain ⟨y631, hy631⟩ : ∃ y_ : List (S65), y_ = (([] : List (S65))) := ⟨_, rfl⟩
  replace H : (if y631.length + t621.length < 5864062014805 then ((some (y631 ++ t621 : List (S65))).bind fun y634 => (if y634.length + t627.length < 5864062014805 then ((XOf.f (y634 ++ t627)).bind fun t640 => ((flat_Steps.f k t615 t616 t617 t618 t619 t640 (Int.tmod (Go.bits .and .i64 a3 255) 5)).bind fun bt643 => ((flat_Steps.f k t615 t616 t617 t618 t619 t621 (Int.tmod (Go.bits .and .i64 a3 255) 5)).bind fun bt647 => ((flat_Steps.f k t615 t616 t617 t618 t619 t627 (Int.tmod (Go.bits .and .i64 a3 255) 5)).bind fun bt651 => (if t630.isNone = true then (if bt643.2.isNone = true then (if bt647.2.isNone = true then (if bt651.2.isNone = true then ((some (([] : List (S65)) : List (S65))).bind fun y659 => (if y659.length + bt647.1.length < 5864062014805 then ((some (y659 ++ bt647.1 : List (S65))).bind fun y662 => (if y662.length + bt651.1.length < 5864062014805 then ((XOf.f (y662 ++ bt651.1)).bind fun t668 => ((set_Set_Same.f k bt643.1 t668).bind fun t671 => (some t671))) else (none))) else (none))) else (some false)) else (some false)) else (some false)) else (some false)))))) else (none))) else (none)) = some r := by first | (rw [hy631]; with_reducible exact H) | (have H2_ := (Option.bind_some _ _).symm.trans H; rw [hy631]; with_reducible exact H2_) | (have H2_ := (Option.bind_some _ _).symm.trans H; with_reducible exact H2_) | with_reducible exact H | (rw [hy631]; exact H) | exact H
  have Ny631 := Aside0.mk hy631
  clear hy631
  by_cases c11 : y631.length + t621.length < 5864062014805
  ·
   rw [if_pos c11] at H
   have LMc11 := Aside0.mk c11
   clear c11
   obtain ⟨y634, hy634⟩ : ∃ y_ : List (S65), y_ = (y631 ++ t621) := ⟨_, rfl⟩
   replace H : (if y634.length + t627.length < 5864062014805 then ((XOf.f (y634 ++ t627)).bind fun t640 => ((flat_Steps.f k t615 t616 t617 t618 t619 t640 (Int.tmod (Go.bits .and .i64 a3 255) 5)).bind fun bt643 => ((flat_Steps.f k t615 t616 t617 t618 t619 t621 (Int.tmod (Go.bits .and .i64 a3 255) 5)).bind fun bt647 => ((flat_Steps.f k t615 t616 t617 t618 t619 t627 (Int.tmod (Go.bits .and .i64 a3 255) 5)).bind fun bt651 => (if t630.isNone = true then (if bt643.2.isNone = true then (if bt647.2.isNone = true then (if bt651.2.isNone = true then ((some (([] : List (S65)) : List (S65))).bind fun y659 => (if y659.length + bt647.1.length < 5864062014805 then ((some (y659 ++ bt647.1 : List (S65))).bind fun y662 => (if y662.length + bt651.1.length < 5864062014805 then ((XOf.f (y662 ++ bt651.1)).bind fun t668 => ((set_Set_Same.f k bt643.1 t668).bind fun t671 => (some t671))) else (none))) else (none))) else (some false)) else (some false)) else (some false)) else (some false)))))) else (none)) = some r := by first | (rw [hy634]; with_reducible exact H) | (have H2_ := (Option.bind_some _ _).symm.trans H; rw [hy634]; with_reducible exact H2_) | (have H2_ := (Option.bind_some _ _).symm.trans H; with_reducible exact H2_) | with_reducible exact H | (rw [hy634]; exact H) | exact H
   have Ny634 := Aside0.mk hy634
   clear hy634
   by_cases c12 : y634.length + t627.length < 5864062014805
   ·
    rw [if_pos c12] at H
    have LMc12 := Aside0.mk c12
    clear c12
    obtain ⟨y637, hy637⟩ : ∃ y_ : List (S65), y_ = (y634 ++ t627) := ⟨_, rfl⟩
    replace H : ((XOf.f y637).bind fun t640 => ((flat_Steps.f k t615 t616 t617 t618 t619 t640 (Int.tmod (Go.bits .and .i64 a3 255) 5)).bind fun bt643 => ((flat_Steps.f k t615 t616 t617 t618 t619 t621 (Int.tmod (Go.bits .and .i64 a3 255) 5)).bind fun bt647 => ((flat_Steps.f k t615 t616 t617 t618 t619 t627 (Int.tmod (Go.bits .and .i64 a3 255) 5)).bind fun bt651 => (if t630.isNone = true then (if bt643.2.isNone = true then (if bt647.2.isNone = true then (if bt651.2.isNone = true then ((some (([] : List (S65)) : List (S65))).bind fun y659 => (if y659.length + bt647.1.length < 5864062014805 then ((some (y659 ++ bt647.1 : List (S65))).bind fun y662 => (if y662.length + bt651.1.length < 5864062014805 then ((XOf.f (y662 ++ bt651.1)).bind fun t668 => ((set_Set_Same.f k bt643.1 t668).bind fun t671 => (some t671))) else (none))) else (none))) else (some false)) else (some false)) else (some false)) else (some false)))))) = some r := by first | (rw [hy637]; with_reducible exact H) | (have H2_ := (Option.bind_some _ _).symm.trans H; rw [hy637]; with_reducible exact H2_) | (have H2_ := (Option.bind_some _ _).symm.trans H; with_reducible exact H2_) | with_reducible exact H | (rw [hy637]; exact H) | exact H
    have Ny637 := Aside0.mk hy637
    clear hy637
    replace H := Option.bind_eq_some_iff.mp H
    obtain ⟨t640, A130, H⟩ := H
    replace H : ((flat_Steps.f k t615 t616 t617 t618 t619 t640 (Int.tmod (Go.bits .and .i64 a3 255) 5)).bind fun bt643 => ((flat_Steps.f k t615 t616 t617 t618 t619 t621 (Int.tmod (Go.bits .and .i64 a3 255) 5)).bind fun bt647 => ((flat_Steps.f k t615 t616 t617 t618 t619 t627 (Int.tmod (Go.bits .and .i64 a3 255) 5)).bind fun bt651 => (if t630.isNone = true then (if bt643.2.isNone = true then (if bt647.2.isNone = true then (if bt651.2.isNone = true then ((some (([] : List (S65)) : List (S65))).bind fun y659 => (if y659.length + bt647.1.length < 5864062014805 then ((some (y659 ++ bt647.1 : List (S65))).bind fun y662 => (if y662.length + bt651.1.length < 5864062014805 then ((XOf.f (y662 ++ bt651.1)).bind fun t668 => ((set_Set_Same.f k bt643.1 t668).bind fun t671 => (some t671))) else (none))) else (none))) else (some false)) else (some false)) else (some false)) else (some false))))) = some r := H
    have A13 := Aside0.mk A130
    clear A130
    replace H := Option.bind_eq_some_iff.mp H
    obtain ⟨⟨t643, t646⟩, A140, H⟩ := H
    replace H : ((flat_Steps.f k t615 t616 t617 t618 t619 t621 (Int.tmod (Go.bits .and .i64 a3 255) 5)).bind fun bt647 => ((flat_Steps.f k t615 t616 t617 t618 t619 t627 (Int.tmod (Go.bits .and .i64 a3 255) 5)).bind fun bt651 => (if t630.isNone = true then (if t646.isNone = true then (if bt647.2.isNone = true then (if bt651.2.isNone = true then ((some (([] : List (S65)) : List (S65))).bind fun y659 => (if y659.length + bt647.1.length < 5864062014805 then ((some (y659 ++ bt647.1 : List (S65))).bind fun y662 => (if y662.length + bt651.1.length < 5864062014805 then ((XOf.f (y662 ++ bt651.1)).bind fun t668 => ((set_Set_Same.f k t643 t668).bind fun t671 => (some t671))) else (none))) else (none))) else (some false)) else (some false)) else (some false)) else (some false)))) = some r := H
    have A14 := Aside0.mk A140
    clear A140
    replace H := Option.bind_eq_some_iff.mp H
    obtain ⟨⟨t647, t650⟩, A150, H⟩ := H
    replace H : ((flat_Steps.f k t615 t616 t617 t618 t619 t627 (Int.tmod (Go.bits .and .i64 a3 255) 5)).bind fun bt651 => (if t630.isNone = true then (if t646.isNone = true then (if t650.isNone = true then (if bt651.2.isNone = true then ((some (([] : List (S65)) : List (S65))).bind fun y659 => (if y659.length + t647.length < 5864062014805 then ((some (y659 ++ t647 : List (S65))).bind fun y662 => (if y662.length + bt651.1.length < 5864062014805 then ((XOf.f (y662 ++ bt651.1)).bind fun t668 => ((set_Set_Same.f k t643 t668).bind fun t671 => (some t671))) else (none))) else (none))) else (some false)) else (some false)) else (some false)) else (some false))) = some r := H
    have A15 := Aside0.mk A150
    clear A150
    replace H := Option.bind_eq_some_iff.mp H
    obtain ⟨⟨t651, t654⟩, A160, H⟩ := H
    replace H : (if t630.isNone = true then (if t646.isNone = true then (if t650.isNone = true then (if t654.isNone = true then ((some (([] : List (S65)) : List (S65))).bind fun y659 => (if y659.length + t647.length < 5864062014805 then ((some (y659 ++ t647 : List (S65))).bind fun y662 => (if y662.length + t651.length < 5864062014805 then ((XOf.f (y662 ++ t651)).bind fun t668 => ((set_Set_Same.f k t643 t668).bind fun t671 => (some t671))) else (none))) else (none))) else (some false)) else (some false)) else (some false)) else (some false)) = some r := H
    have A16 := Aside0.mk A160
    clear A160
    rcases t630 with _ | q655
    ·
     have H1 : (if t646.isNone = true then (if t650.isNone = true then (if t654.isNone = true then ((some (([] : List (S65)) : List (S65))).bind fun y659 => (if y659.length + t647.length < 5864062014805 then ((some (y659 ++ t647 : List (S65))).bind fun y662 => (if y662.length + t651.length < 5864062014805 then ((XOf.f (y662 ++ t651)).bind fun t668 => ((set_Set_Same.f k t643 t668).bind fun t671 => (some t671))) else (none))) else (none))) else (some false)) else (some false)) else (some false)) = some r := by rw [if_pos (show (none : Option Int).isNone = true by rfl)] at H; exact H
     clear H
     have H := H1
     clear H1
     try simp only [errW_none, errW_some]
     rcases t646 with _ | q656
     ·
      have H1 : (if t650.isNone = true then (if t654.isNone = true then ((some (([] : List (S65)) : List (S65))).bind fun y659 => (if y659.length + t647.length < 5864062014805 then ((some (y659 ++ t647 : List (S65))).bind fun y662 => (if y662.length + t651.length < 5864062014805 then ((XOf.f (y662 ++ t651)).bind fun t668 => ((set_Set_Same.f k t643 t668).bind fun t671 => (some t671))) else (none))) else (none))) else (some false)) else (some false)) = some r := by rw [if_pos (show (none : Option Int).isNone = true by rfl)] at H; exact H
      clear H
      have H := H1
      clear H1
      try simp only [errW_none, errW_some]
      rcases t650 with _ | q657
      ·
       have H1 : (if t654.isNone = true then ((some (([] : List (S65)) : List (S65))).bind fun y659 => (if y659.length + t647.length < 5864062014805 then ((some (y659 ++ t647 : List (S65))).bind fun y662 => (if y662.length + t651.length < 5864062014805 then ((XOf.f (y662 ++ t651)).bind fun t668 => ((set_Set_Same.f k t643 t668).bind fun t671 => (some t671))) else (none))) else (none))) else (some false)) = some r := by rw [if_pos (show (none : Option Int).isNone = true by rfl)] at H; exact H
       clear H
       have H := H1
       clear H1
       try simp only [errW_none, errW_some]
       rcases t654 with _ | q658
       ·
        have H1 : ((some (([] : List (S65)) : List (S65))).bind fun y659 => (if y659.length + t647.length < 5864062014805 then ((some (y659 ++ t647 : List (S65))).bind fun y662 => (if y662.length + t651.length < 5864062014805 then ((XOf.f (y662 ++ t651)).bind fun t668 => ((set_Set_Same.f k t643 t668).bind fun t671 => (some t671))) else (none))) else (none))) = some r := by rw [if_pos (show (none : Option Int).isNone = true by rfl)] at H; exact H
        clear H
        have H := H1
        clear H1
        try simp only [errW_none, errW_some]
        obtain ⟨y659, hy659⟩ : ∃ y_ : List (S65), y_ = (([] : List (S65))) := ⟨_, rfl⟩
        replace H : (if y659.length + t647.length < 5864062014805 then ((some (y659 ++ t647 : List (S65))).bind fun y662 => (if y662.length + t651.length < 5864062014805 then ((XOf.f (y662 ++ t651)).bind fun t668 => ((set_Set_Same.f k t643 t668).bind fun t671 => (some t671))) else (none))) else (none)) = some r := by first | (rw [hy659]; with_reducible exact H) | (have H2_ := (Option.bind_some _ _).symm.trans H; rw [hy659]; with_reducible exact H2_) | (have H2_ := (Option.bind_some _ _).symm.trans H; with_reducible exact H2_) | with_reducible exact H | (rw [hy659]; exact H) | exact H
        have Ny659 := Aside0.mk hy659
        clear hy659
        by_cases c17 : y659.length + t647.length < 5864062014805
        ·
         rw [if_pos c17] at H
         have LMc17 := Aside0.mk c17
         clear c17
         obtain ⟨y662, hy662⟩ : ∃ y_ : List (S65), y_ = (y659 ++ t647) := ⟨_, rfl⟩
         replace H : (if y662.length + t651.length < 5864062014805 then ((XOf.f (y662 ++ t651)).bind fun t668 => ((set_Set_Same.f k t643 t668).bind fun t671 => (some t671))) else (none)) = some r := by first | (rw [hy662]; with_reducible exact H) | (have H2_ := (Option.bind_some _ _).symm.trans H; rw [hy662]; with_reducible exact H2_) | (have H2_ := (Option.bind_some _ _).symm.trans H; with_reducible exact H2_) | with_reducible exact H | (rw [hy662]; exact H) | exact H
         have Ny662 := Aside0.mk hy662
         clear hy662
         by_cases c18 : y662.length + t651.length < 5864062014805
         ·
          rw [if_pos c18] at H
          have LMc18 := Aside0.mk c18
          clear c18
          obtain ⟨y665, hy665⟩ : ∃ y_ : List (S65), y_ = (y662 ++ t651) := ⟨_, rfl⟩
          replace H : ((XOf.f y665).bind fun t668 => ((set_Set_Same.f k t643 t668).bind fun t671 => (some t671))) = some r := by first | (rw [hy665]; with_reducible exact H) | (have H2_ := (Option.bind_some _ _).symm.trans H; rw [hy665]; with_reducible exact H2_) | (have H2_ := (Option.bind_some _ _).symm.trans H; with_reducible exact H2_) | with_reducible exact H | (rw [hy665]; exact H) | exact H
          have Ny665 := Aside0.mk hy665
          clear hy665
          replace H := Option.bind_eq_some_iff.mp H
          obtain ⟨t668, A190, H⟩ := H
          replace H : ((set_Set_Same.f k t643 t668).bind fun t671 => (some t671)) = some r := H
          have A19 := Aside0.mk A190
          clear A190
          replace H := Option.bind_eq_some_iff.mp H
          obtain ⟨t671, A200, H⟩ := H
          replace H : (some t671) = some r := H
          have A20 := Aside0.mk A200
          clear A200
          obtain rfl := Option.some.inj H
          go_enter Tryd.func6, Tryd.ntmps6
          try go_wp2_with (first | ((with_reducible refine gate_dst (N := 4) rfl ?_); (try (refine gate_guard (by rfl) ?_; dsimp only)); refine box_event ?hg (N := 4) ?hd (cs := #[.int .i64 a0_0, .int .u64 a0_1, .int .u64 a0_2, .int .u64 a0_3, .int .u64 a0_4]) (t := 25) ?hr ?_; (case hd => rfl); (case hg => rfl); (case hr => first | (go_simp; done) | (go_simp; rfl)); intro gb613 hg w21 hbox hb; have n0_ := Aside0.mk (below_step (by repeat (first | (with_reducible first | exact HB.out | apply ba_ | apply bn_ | apply bd_) | exact HB.out)) hb); have n1_ := Aside0.mk (hbox); have n2_ := Aside0.mk ((by rw [hg]; exact (below_size (by repeat (first | (with_reducible first | exact HB.out | apply ba_ | apply bn_ | apply bd_) | exact HB.out))) : w.heap.size ≤ gb613)); have n3_ := Aside0.mk ((by rw [hg]; exact (below_size (by repeat (first | (with_reducible first | exact HB.out | apply ba_ | apply bn_ | apply bd_) | exact HB.out))) : w.heap.size ≤ gb613)); clear HB; have HB := n0_; have BK613 := n1_; have GW613 := n2_; have GE613 := n3_; clear n0_ n1_ n2_ n3_; clear hb hbox hg) | ((with_reducible refine gate_callee (f := 20) rfl ?_); refine goesL_ (some 19) rfl rfl Tryd.func20 (by kernel_rfl) rfl #[] rfl (by (try simp only [List.map_toArray, List.map_cons, List.map_nil]); first | done | rfl | (simp only [List.length_drop, List.length_take]; rfl)) ?_; (with_reducible refine (honeycomblaw08_awake.calls k  true _ ?side1 A5.out rfl).mono ?_); (case side1 => exact HGSix.out.below (by repeat (first | (with_reducible first | exact HB.out | apply ba_ | apply bn_ | apply bd_ | refine below_set ?_ GE613.out) | exact HB.out))); rintro e w22 ⟨rfl, hb⟩; refine ⟨_, rfl, ?_⟩; have n0_ := Aside0.mk (blk_below (g := gb613) (o := .cells #[.int .i64 a0_0, .int .u64 a0_1, .int .u64 a0_2, .int .u64 a0_3, .int .u64 a0_4] 25 (0, 0)) (by (with_reducible repeat (first | apply bN_ | apply bD_ | apply bA_)); exact BK613.out) hb); have n1_ := Aside0.mk (below_step (by repeat (first | (with_reducible first | exact HB.out | apply ba_ | apply bn_ | apply bd_ | refine below_set ?_ GE613.out) | exact HB.out)) hb); clear BK613; clear HB; have BK613 := n0_; have HB := n1_; clear n0_ n1_; (try clear hb); (try clear hb2); (try clear hk); (try clear hi); have hcz23_0 : w22.cell? ⟨gb613, 0, none⟩ = some (.int .i64 a0_0) := (blk_cell BK613.out 0).trans rfl; have hcz23_1 : w22.cell? ⟨gb613, 1, none⟩ = some (.int .u64 a0_1) := (blk_cell BK613.out 1).trans rfl; have hcz23_2 : w22.cell? ⟨gb613, 2, none⟩ = some (.int .u64 a0_2) := (blk_cell BK613.out 2).trans rfl; have hcz23_3 : w22.cell? ⟨gb613, 3, none⟩ = some (.int .u64 a0_3) := (blk_cell BK613.out 3).trans rfl; have hcz23_4 : w22.cell? ⟨gb613, 4, none⟩ = some (.int .u64 a0_4) := (blk_cell BK613.out 4).trans rfl; have hfz23_0 := blk_frozen BK613.out 0; have hfz23_1 := blk_frozen BK613.out 1; have hfz23_2 := blk_frozen BK613.out 2; have hfz23_3 := blk_frozen BK613.out 3; have hfz23_4 := blk_frozen BK613.out 4) | ((with_reducible refine gate_callee (f := 14) rfl ?_); refine goesL_ (some 22) rfl rfl Tryd.func14 (by kernel_rfl) rfl #[.agg #[.int .i64 a0_0, .int .u64 a0_1, .int .u64 a0_2, .int .u64 a0_3, .int .u64 a0_4]] rfl (by (try simp only [List.map_toArray, List.map_cons, List.map_nil]); first | done | rfl | (simp only [List.length_drop, List.length_take]; rfl)) ?_; (with_reducible refine (XSome5.calls a0_0 a0_1 a0_2 a0_3 a0_4 t615 t616 t617 t618 t619 _ A7.out).mono ?_); rintro e w24 ⟨rfl, hb⟩; refine ⟨_, rfl, ?_⟩; have n0_ := Aside0.mk (blk_below (g := gb613) (o := .cells #[.int .i64 a0_0, .int .u64 a0_1, .int .u64 a0_2, .int .u64 a0_3, .int .u64 a0_4] 25 (0, 0)) (by (with_reducible repeat (first | apply bN_ | apply bD_ | apply bA_)); exact BK613.out) hb); have n1_ := Aside0.mk (below_step (by repeat (first | (with_reducible first | exact HB.out | apply ba_ | apply bn_ | apply bd_ | refine below_set ?_ GE613.out) | exact HB.out)) hb); clear BK613; clear HB; have BK613 := n0_; have HB := n1_; clear n0_ n1_; (try clear hb); (try clear hb2); (try clear hk); (try clear hi)) | ((with_reducible refine gate_dst (N := 9) rfl ?_); (try (refine gate_guard (by rfl) ?_; dsimp only)); refine box_event ?hg (N := 9) ?hd (cs := #[.int .i64 0, .int .u64 0, .int .u64 0, .int .u64 0, .int .u64 0]) (t := 29) ?hr ?_; (case hd => rfl); (case hg => rfl); (case hr => first | (go_simp; done) | (go_simp; rfl)); intro gb620 hg w25 hbox hb; have n0_ := Aside0.mk (blk_below (g := gb613) (o := .cells #[.int .i64 a0_0, .int .u64 a0_1, .int .u64 a0_2, .int .u64 a0_3, .int .u64 a0_4] 25 (0, 0)) (by (with_reducible repeat (first | apply bN_ | apply bD_ | apply bA_)); exact BK613.out) hb); have n1_ := Aside0.mk (below_step (by repeat (first | (with_reducible first | exact HB.out | apply ba_ | apply bn_ | apply bd_ | refine below_set ?_ GE613.out) | exact HB.out)) hb); have n2_ := Aside0.mk (hbox); have n3_ := Aside0.mk ((by rw [hg]; exact (below_size (by repeat (first | (with_reducible first | exact HB.out | apply ba_ | apply bn_ | apply bd_ | refine below_set ?_ GE613.out) | exact HB.out))) : w.heap.size ≤ gb620)); have n4_ := Aside0.mk ((by rw [hg]; exact (below_size (by repeat (first | (with_reducible first | exact HB.out | apply ba_ | apply bn_ | apply bd_ | refine below_set ?_ GE613.out) | exact HB.out))) : w.heap.size ≤ gb620)); have n5_ := Aside0.mk ((by rw [hg]; exact Nat.ne_of_lt (blk_lt (g := gb613) (o := .cells #[.int .i64 a0_0, .int .u64 a0_1, .int .u64 a0_2, .int .u64 a0_3, .int .u64 a0_4] 25 (0, 0)) (by (with_reducible repeat (first | apply bN_ | apply bD_ | apply bA_)); exact BK613.out)) : gb613 ≠ gb620)); have n6_ := Aside0.mk ((by rw [hg]; exact Nat.ne_of_gt (blk_lt (g := gb613) (o := .cells #[.int .i64 a0_0, .int .u64 a0_1, .int .u64 a0_2, .int .u64 a0_3, .int .u64 a0_4] 25 (0, 0)) (by (with_reducible repeat (first | apply bN_ | apply bD_ | apply bA_)); exact BK613.out)) : gb620 ≠ gb613)); clear BK613; clear HB; have BK613 := n0_; have HB := n1_; have BK620 := n2_; have GW620 := n3_; have GE620 := n4_; have NB613_620 := n5_; have NB620_613 := n6_; clear n0_ n1_ n2_ n3_ n4_ n5_ n6_; clear hb hbox hg; have hnb26 := NB620_613.out; have hnc26 := NB613_620.out; have hcz27_0 : w25.cell? ⟨gb620, 0, none⟩ = some (.int .i64 0) := (blk_cell BK620.out 0).trans rfl; have hcz27_1 : w25.cell? ⟨gb620, 1, none⟩ = some (.int .u64 0) := (blk_cell BK620.out 1).trans rfl; have hcz27_2 : w25.cell? ⟨gb620, 2, none⟩ = some (.int .u64 0) := (blk_cell BK620.out 2).trans rfl; have hcz27_3 : w25.cell? ⟨gb620, 3, none⟩ = some (.int .u64 0) := (blk_cell BK620.out 3).trans rfl; have hcz27_4 : w25.cell? ⟨gb620, 4, none⟩ = some (.int .u64 0) := (blk_cell BK620.out 4).trans rfl; have hfz27_0 := blk_frozen BK620.out 0; have hfz27_1 := blk_frozen BK620.out 1; have hfz27_2 := blk_frozen BK620.out 2; have hfz27_3 := blk_frozen BK620.out 3; have hfz27_4 := blk_frozen BK620.out 4) | ((with_reducible refine gate_callee (f := 21) rfl ?_); refine goesL_ (some 26) rfl rfl Tryd.func21 (by kernel_rfl) rfl #[.int .i64 t615, .slice A1 l1.length c1] rfl (by (try simp only [List.map_toArray, List.map_cons, List.map_nil]); first | done | rfl | (simp only [List.length_drop, List.length_take]; rfl)) ?_; (with_reducible refine (honeycomblaw08_Few.calls k t615 _ _ l1 t621 _ ?side1 ?side2 A8.out).mono ?_); (case side1 => exact Kd.C_below HR1.out (by repeat (first | (with_reducible first | exact HB.out | apply ba_ | apply bn_ | apply bd_ | refine below_set ?_ GE613.out | refine below_set ?_ GE620.out) | exact HB.out))); (case side2 => exact HC1.out); rintro e w28 ⟨v622, rfl, ho0, hb⟩; refine ⟨_, rfl, ?_⟩; have n0_ := Aside0.mk (Kd.R_lower ho0 (below_size (by repeat (first | (with_reducible first | exact HB.out | apply ba_ | apply bn_ | apply bd_ | refine below_set ?_ GE613.out | refine below_set ?_ GE620.out) | exact HB.out)))); have n1_ := Aside0.mk (blk_below (g := gb613) (o := .cells #[.int .i64 a0_0, .int .u64 a0_1, .int .u64 a0_2, .int .u64 a0_3, .int .u64 a0_4] 25 (0, 0)) (by (with_reducible repeat (first | apply bN_ | apply bD_ | apply bA_)); refine blk_far ?_ NB613_620.out _; (with_reducible repeat (first | apply bN_ | apply bD_ | apply bA_)); refine blk_far ?_ NB613_620.out _; (with_reducible repeat (first | apply bN_ | apply bD_ | apply bA_)); refine blk_far ?_ NB613_620.out _; (with_reducible repeat (first | apply bN_ | apply bD_ | apply bA_)); refine blk_far ?_ NB613_620.out _; (with_reducible repeat (first | apply bN_ | apply bD_ | apply bA_)); refine blk_far ?_ NB613_620.out _; (with_reducible repeat (first | apply bN_ | apply bD_ | apply bA_)); exact BK613.out) hb); have n2_ := Aside0.mk (blk_below (g := gb620) (o := .cells #[.int .i64 t615, .int .u64 t616, .int .u64 t617, .int .u64 t618, .int .u64 t619] 29 (0, 0)) (by (with_reducible repeat (first | apply bN_ | apply bD_ | apply bA_)); refine blk_put (cs := #[.int .i64 t615, .int .u64 t616, .int .u64 t617, .int .u64 t618, .int .u64 0]) ?_ 4 _ rfl; (with_reducible repeat (first | apply bN_ | apply bD_ | apply bA_)); refine blk_put (cs := #[.int .i64 t615, .int .u64 t616, .int .u64 t617, .int .u64 0, .int .u64 0]) ?_ 3 _ rfl; (with_reducible repeat (first | apply bN_ | apply bD_ | apply bA_)); refine blk_put (cs := #[.int .i64 t615, .int .u64 t616, .int .u64 0, .int .u64 0, .int .u64 0]) ?_ 2 _ rfl; (with_reducible repeat (first | apply bN_ | apply bD_ | apply bA_)); refine blk_put (cs := #[.int .i64 t615, .int .u64 0, .int .u64 0, .int .u64 0, .int .u64 0]) ?_ 1 _ rfl; (with_reducible repeat (first | apply bN_ | apply bD_ | apply bA_)); refine blk_put (cs := #[.int .i64 0, .int .u64 0, .int .u64 0, .int .u64 0, .int .u64 0]) ?_ 0 _ rfl; (with_reducible repeat (first | apply bN_ | apply bD_ | apply bA_)); exact BK620.out) hb); have n3_ := Aside0.mk (below_step (by repeat (first | (with_reducible first | exact HB.out | apply ba_ | apply bn_ | apply bd_ | refine below_set ?_ GE613.out | refine below_set ?_ GE620.out) | exact HB.out)) hb); clear BK613; clear BK620; clear HB; have HO623 := n0_; have BK613 := n1_; have BK620 := n2_; have HB := n3_; clear n0_ n1_ n2_ n3_; (try clear hb); (try clear hb2); (try clear hk); (try clear hi); (try clear ho0); have hcz29_0 : w28.cell? ⟨gb620, 0, none⟩ = some (.int .i64 t615) := (blk_cell BK620.out 0).trans rfl; have hcz29_1 : w28.cell? ⟨gb620, 1, none⟩ = some (.int .u64 t616) := (blk_cell BK620.out 1).trans rfl; have hcz29_2 : w28.cell? ⟨gb620, 2, none⟩ = some (.int .u64 t617) := (blk_cell BK620.out 2).trans rfl; have hcz29_3 : w28.cell? ⟨gb620, 3, none⟩ = some (.int .u64 t618) := (blk_cell BK620.out 3).trans rfl; have hcz29_4 : w28.cell? ⟨gb620, 4, none⟩ = some (.int .u64 t619) := (blk_cell BK620.out 4).trans rfl; have hfz29_0 := blk_frozen BK620.out 0; have hfz29_1 := blk_frozen BK620.out 1; have hfz29_2 := blk_frozen BK620.out 2; have hfz29_3 := blk_frozen BK620.out 3; have hfz29_4 := blk_frozen BK620.out 4) | ((with_reducible refine gate_callee (f := 21) rfl ?_); refine goesL_ (some 31) rfl rfl Tryd.func21 (by kernel_rfl) rfl #[.int .i64 t615, .slice A2 l2.length c2] rfl (by (try simp only [List.map_toArray, List.map_cons, List.map_nil]); first | done | rfl | (simp only [List.length_drop, List.length_take]; rfl)) ?_; (with_reducible refine (honeycomblaw08_Few.calls k t615 _ _ l2 t624 _ ?side1 ?side2 A9.out).mono ?_); (case side1 => repeat (first | exact (Kd.C_below HR2.out HB.out) | (with_reducible refine Kd.C_alloc ?_ _) | (with_reducible refine Kd.C_drewN ?_ _) | (with_reducible refine Kd.C_drew ?_))); (case side2 => exact HC2.out); rintro e w30 ⟨v625, rfl, ho0, hb⟩; refine ⟨_, rfl, ?_⟩; have n0_ := Aside0.mk (Kd.R_elder' (by (with_reducible repeat (first | apply Kd.R_alloc | apply Kd.R_drewN | apply Kd.R_drew)); exact HO623.out) (Kd.R_base ho0) hb); have n1_ := Aside0.mk (Kd.R_lower (Kd.R_new' ho0 (Kd.R_lt (by (with_reducible repeat (first | apply Kd.R_alloc | apply Kd.R_drewN | apply Kd.R_drew)); exact HO623.out))) (below_size (by repeat (first | (with_reducible first | exact HB.out | apply ba_ | apply bn_ | apply bd_ | refine below_set ?_ GE613.out | refine below_set ?_ GE620.out) | exact HB.out)))); have n2_ := Aside0.mk (blk_below (g := gb613) (o := .cells #[.int .i64 a0_0, .int .u64 a0_1, .int .u64 a0_2, .int .u64 a0_3, .int .u64 a0_4] 25 (0, 0)) (by (with_reducible repeat (first | apply bN_ | apply bD_ | apply bA_)); exact BK613.out) hb); have n3_ := Aside0.mk (blk_below (g := gb620) (o := .cells #[.int .i64 t615, .int .u64 t616, .int .u64 t617, .int .u64 t618, .int .u64 t619] 29 (0, 0)) (by (with_reducible repeat (first | apply bN_ | apply bD_ | apply bA_)); exact BK620.out) hb); have n4_ := Aside0.mk (below_step (by repeat (first | (with_reducible first | exact HB.out | apply ba_ | apply bn_ | apply bd_ | refine below_set ?_ GE613.out | refine below_set ?_ GE620.out) | exact HB.out)) hb); clear HO623; clear BK613; clear BK620; clear HB; have HO623 := n0_; have HO626 := n1_; have BK613 := n2_; have BK620 := n3_; have HB := n4_; clear n0_ n1_ n2_ n3_ n4_; (try clear hb); (try clear hb2); (try clear hk); (try clear hi); (try clear ho0); obtain ⟨Ao31, co31, eo31⟩ := Kd.R_slice HO626.out; subst eo31) | ((with_reducible refine gate_callee (f := 36) rfl ?_); refine goesL_ (some 33) rfl rfl Tryd.func36 (by kernel_rfl) rfl #[.slice Ao31 t624.length co31, .agg #[.int .i64 100, .int .i64 (-50)]] rfl (by (try simp only [List.map_toArray, List.map_cons, List.map_nil]); first | done | rfl | (simp only [List.length_drop, List.length_take]; rfl)) ?_; (with_reducible refine (XShift.calls _ _ t624 100 (-50) t627 none _ ?side1 ?side2 A10.out).mono ?_); (case side1 => repeat (first | exact (Kd.R_reads' HO626.out).2.2 | (with_reducible refine Kd.C_alloc ?_ _) | (with_reducible refine Kd.C_drewN ?_ _) | (with_reducible refine Kd.C_drew ?_))); (case side2 => exact (Kd.R_reads' HO626.out).2.1); rintro e w32 ⟨v628, rfl, ho0, hb⟩; refine ⟨_, rfl, ?_⟩; have n0_ := Aside0.mk (Kd.R_elder' (by (with_reducible repeat (first | apply Kd.R_alloc | apply Kd.R_drewN | apply Kd.R_drew)); exact HO623.out) (Kd.R_base ho0) hb); have n1_ := Aside0.mk (Kd.R_elder' (by (with_reducible repeat (first | apply Kd.R_alloc | apply Kd.R_drewN | apply Kd.R_drew)); exact HO626.out) (Kd.R_base ho0) hb); have n2_ := Aside0.mk (Kd.R_lower (Kd.R_new' (Kd.R_new' ho0 (Kd.R_lt (by (with_reducible repeat (first | apply Kd.R_alloc | apply Kd.R_drewN | apply Kd.R_drew)); exact HO623.out))) (Kd.R_lt (by (with_reducible repeat (first | apply Kd.R_alloc | apply Kd.R_drewN | apply Kd.R_drew)); exact HO626.out))) (below_size (by repeat (first | (with_reducible first | exact HB.out | apply ba_ | apply bn_ | apply bd_ | refine below_set ?_ GE613.out | refine below_set ?_ GE620.out) | exact HB.out)))); have n3_ := Aside0.mk (blk_below (g := gb613) (o := .cells #[.int .i64 a0_0, .int .u64 a0_1, .int .u64 a0_2, .int .u64 a0_3, .int .u64 a0_4] 25 (0, 0)) (by (with_reducible repeat (first | apply bN_ | apply bD_ | apply bA_)); exact BK613.out) hb); have n4_ := Aside0.mk (blk_below (g := gb620) (o := .cells #[.int .i64 t615, .int .u64 t616, .int .u64 t617, .int .u64 t618, .int .u64 t619] 29 (0, 0)) (by (with_reducible repeat (first | apply bN_ | apply bD_ | apply bA_)); exact BK620.out) hb); have n5_ := Aside0.mk (below_step (by repeat (first | (with_reducible first | exact HB.out | apply ba_ | apply bn_ | apply bd_ | refine below_set ?_ GE613.out | refine below_set ?_ GE620.out) | exact HB.out)) hb); clear HO623; clear HO626; clear BK613; clear BK620; clear HB; have HO623 := n0_; have HO626 := n1_; have HO629 := n2_; have BK613 := n3_; have BK620 := n4_; have HB := n5_; clear n0_ n1_ n2_ n3_ n4_ n5_; (try clear hb); (try clear hb2); (try clear hk); (try clear hi); (try clear ho0); (try simp only [errW_none, errW_some])))
          have n0_ := Aside0.mk (Kd.R_drew HO623.out)
          have n1_ := Aside0.mk (Kd.R_drew HO626.out)
          have n2_ := Aside0.mk (Kd.R_drew HO629.out)
          have n3_ := Aside0.mk (blk_drew BK613.out)
          have n4_ := Aside0.mk (blk_drew BK620.out)
          have n5_ := Aside0.mk (below_drew1 HB.out)
          clear HO623
          clear HO626
          clear HO629
          clear BK613
          clear BK620
          clear HB
          have HO623 := n0_
          have HO626 := n1_
          have HO629 := n2_
          have BK613 := n3_
          have BK620 := n4_
          have HB := n5_
          clear n0_ n1_ n2_ n3_ n4_ n5_
          refine start_ (n := 14) (S := fun w' => w'.cell? ⟨gb620, 0, none⟩ = some (.int .i64 t615) ∧ w'.cell? ⟨gb620, 1, none⟩ = some (.int .u64 t616) ∧ w'.cell? ⟨gb620, 2, none⟩ = some (.int .u64 t617) ∧ w'.cell? ⟨gb620, 3, none⟩ = some (.int .u64 t618) ∧ w'.cell? ⟨gb620, 4, none⟩ = some (.int .u64 t619)) (ds := []) #[false, false, false, false, false, false, false, false, false, false, false, false, false, false] (by kernel_rfl) rfl rfl ⟨(blk_cell BK620.out 0).trans rfl, (blk_cell BK620.out 1).trans rfl, (blk_cell BK620.out 2).trans rfl, (blk_cell BK620.out 3).trans rfl, (blk_cell BK620.out 4).trans rfl⟩ (fun hHeld => ?_); refine with_tabW honeycomblaw08_FlatFar.tab7 honeycomblaw08_FlatFar.bits7 (fun HT_ HW_ => ?_)
          generalize w32.drew = w33 at HO623 HO626 HO629 BK613 BK620 HB hHeld ⊢
          refine pure_ (i := 2) (N := some 42) (v := ?_) (a' := ?_) #[false, false, true, false, false, false, false, false, false, false, false, false, false, false] rfl rfl (any_of HT_.out (by kernel_rfl)) (fun _ _ _ h => h) (Or.inl ⟨by rfl, ?_⟩) ?_ ?_
          rotate_left
          ·
           intro w'
           go_simp
           with_reducible rfl
          rotate_left
          ·
           simp only [Act.put, List.setIfInBounds_toArray, List.set_cons_zero, List.set_cons_succ, i64_w, i32_w]
           rfl
          refine pure_ (i := 4) (N := some 44) (v := ?_) (a' := ?_) #[false, false, true, false, true, false, false, false, false, false, false, false, false, false] rfl rfl (any_of HT_.out (by kernel_rfl)) (fun _ _ _ h => h) (Or.inl ⟨by rfl, ?_⟩) ?_ ?_
          rotate_left
          ·
           intro w'
           go_simp
           with_reducible rfl
          rotate_left
          ·
           simp only [Act.put, List.setIfInBounds_toArray, List.set_cons_zero, List.set_cons_succ, i64_w, i32_w]
           rfl
          refine pure_ (i := 7) (N := some 47) (v := ?_) (a' := ?_) #[false, false, true, false, true, false, false, true, false, false, false, false, false, false] rfl rfl (any_of HT_.out (by kernel_rfl)) (fun _ _ _ h => h) (Or.inl ⟨by rfl, ?_⟩) ?_ ?_
          rotate_left
          ·
           intro w'
           go_simp
           with_reducible rfl
          rotate_left
          ·
           simp only [Act.put, List.setIfInBounds_toArray, List.set_cons_zero, List.set_cons_succ, i64_w, i32_w]
           rfl
          refine take_ (i := 0) (N := some 40) (v := ?_) (a' := ?_) #[true, false, true, false, true, false, false, true, false, false, false, false, false, false] rfl rfl (take_ofW HT_.out HW_.out (by kernel_rfl)) (fun _ _ _ h => h) (Or.inl ⟨by rfl, ?_⟩) hHeld ?_ ?_
          rotate_left
          ·
           rintro w' ⟨s0, s1, s2, s3, s4⟩
           go_simp
           with_reducible rfl
          rotate_left
          ·
           simp only [Act.put, List.setIfInBounds_toArray, List.set_cons_zero, List.set_cons_succ, i64_w, i32_w]
           rfl
          refine one_ (i := 1) (N := some 41) #[true, true, true, false, true, false, false, true, false, false, false, false, false, false] rfl rfl (one_of HT_.out (by kernel_rfl)) (by decide) (fun K hK => ?_)
          refine Kd.R_lit_step k65 _ 65 ?hg (N := 41) ?hd (xs := ([] : List (S65))) (inner := []) (ok := fun _ => True) (okp := fun _ => True) ?hr ?hp (fun _ hk => hk) trivial (Below.refl _ _) (Nat.le_refl _) (by simp) ?_; (case hd => rfl); (case hg => rfl); (case hr => first | (go_simp; done) | (go_simp; rfl)); (case hp => exact (Reps.none _ _))
          intro v632 w34 ho35 hb hg_ hnew_
          clear hg_ hnew_
          (first | rw [← Ny631.out] at ho35 | (simp only [Int.reduceToNat] at ho35; rw [← Ny631.out] at ho35))
          have n0_ := Aside0.mk (Kd.R_elder' (by (with_reducible repeat (first | apply Kd.R_alloc | apply Kd.R_drewN | apply Kd.R_drew)); exact HO623.out) (Kd.R_base ho35) hb)
          have n1_ := Aside0.mk (Kd.R_elder' (by (with_reducible repeat (first | apply Kd.R_alloc | apply Kd.R_drewN | apply Kd.R_drew)); exact HO626.out) (Kd.R_base ho35) hb)
          have n2_ := Aside0.mk (Kd.R_elder' (by (with_reducible repeat (first | apply Kd.R_alloc | apply Kd.R_drewN | apply Kd.R_drew)); exact HO629.out) (Kd.R_base ho35) hb)
          have n3_ := Aside0.mk (Kd.R_lower (Kd.R_new' (Kd.R_new' (Kd.R_new' ho35 (Kd.R_lt (by (with_reducible repeat (first | apply Kd.R_alloc | apply Kd.R_drewN | apply Kd.R_drew)); exact HO623.out))) (Kd.R_lt (by (with_reducible repeat (first | apply Kd.R_alloc | apply Kd.R_drewN | apply Kd.R_drew)); exact HO626.out))) (Kd.R_lt (by (with_reducible repeat (first | apply Kd.R_alloc | apply Kd.R_drewN | apply Kd.R_drew)); exact HO629.out))) (below_size (by repeat (first | (with_reducible first | exact HB.out | apply ba_ | apply bn_ | apply bd_ | refine below_set ?_ GE613.out | refine below_set ?_ GE620.out) | exact HB.out))))
          have n4_ := Aside0.mk (blk_below (g := gb613) (o := .cells #[.int .i64 a0_0, .int .u64 a0_1, .int .u64 a0_2, .int .u64 a0_3, .int .u64 a0_4] 25 (0, 0)) (by (with_reducible repeat (first | apply bN_ | apply bD_ | apply bA_)); exact BK613.out) hb)
          have n5_ := Aside0.mk (blk_below (g := gb620) (o := .cells #[.int .i64 t615, .int .u64 t616, .int .u64 t617, .int .u64 t618, .int .u64 t619] 29 (0, 0)) (by (with_reducible repeat (first | apply bN_ | apply bD_ | apply bA_)); exact BK620.out) hb)
          have n6_ := Aside0.mk (below_step (by repeat (first | (with_reducible first | exact HB.out | apply ba_ | apply bn_ | apply bd_ | refine below_set ?_ GE613.out | refine below_set ?_ GE620.out) | exact HB.out)) hb)
          clear HO623
          clear HO626
          clear HO629
          clear BK613
          clear BK620
          clear HB
          have HO623 := n0_
          have HO626 := n1_
          have HO629 := n2_
          have HO633 := n3_
          have BK613 := n4_
          have BK620 := n5_
          have HB := n6_
          clear n0_ n1_ n2_ n3_ n4_ n5_ n6_
          clear hb ho35
          obtain ⟨Ao37, co37, eo37⟩ := Kd.R_slice HO623.out
          (first | subst eo37 | (injection eo37 with f1_ f2_ f3_; have f4_ := f1_.symm; have f5_ := f3_.symm; clear f1_ f2_ f3_; subst f4_; subst f5_))
          refine hK.out _ _ ⟨(blk_cell BK620.out 0).trans rfl, (blk_cell BK620.out 1).trans rfl, (blk_cell BK620.out 2).trans rfl, (blk_cell BK620.out 3).trans rfl, (blk_cell BK620.out 4).trans rfl⟩ (fun hHeld => ?_)
          clear hK K
          refine norm_ (a' := ?_) ?_ ?_
          rotate_left
          ·
           show Act.put _ (some 41) _ = _
           simp only [Act.put, List.setIfInBounds_toArray, List.set_cons_zero, List.set_cons_succ, i64_w, i32_w]
           rfl
          refine one_ (i := 3) (N := some 43) #[true, true, true, true, true, false, false, true, false, false, false, false, false, false] rfl rfl (one_of HT_.out (by kernel_rfl)) (by decide) (fun K hK => ?_)
          refine app_rows2 35 65 k65 (w0 := w) w.heap.size (by rfl) (.tmp 41) (.tmp 42) 34 65 (.agg #[(.int .i64 0), (.int .i64 0), (.int .i64 0)]) 24 rfl Tryd.underlying35 Tryd.underlying34 info65 rfl (by decide) (by omega) v632 y631 t621 _ _ _ (fun k_ => some k_ ≠ (.slice Ao37 t621.length co37 : Value).ownBlock ∧ some k_ ≠ (.slice Ao31 t624.length co31 : Value).ownBlock ∧ some k_ ≠ (v628 : Value).ownBlock) (fun _ => False) rfl rfl ?aO ?aR (fun _ _ h => h) (fun _ h => h.elim) ?aF ?aB ?aS ?aL ?_
          (case aR => repeat (first | exact (Kd.R_reads' HO623.out).2.2 | (with_reducible refine Kd.C_alloc ?_ _) | (with_reducible refine Kd.C_drewN ?_ _) | (with_reducible refine Kd.C_drew ?_)))
          (case aB => exact (by repeat (first | (with_reducible first | exact HB.out | apply ba_ | apply bn_ | apply bd_ | refine below_set ?_ GE613.out | refine below_set ?_ GE620.out) | exact HB.out)))
          (case aF => exact (fun k_ hk => ⟨Kd.fresh' (Kd.R_lt (by (with_reducible repeat (first | apply Kd.R_alloc | apply Kd.R_drewN | apply Kd.R_drew)); exact HO623.out)) k_ hk, Kd.fresh' (Kd.R_lt (by (with_reducible repeat (first | apply Kd.R_alloc | apply Kd.R_drewN | apply Kd.R_drew)); exact HO626.out)) k_ hk, Kd.fresh' (Kd.R_lt (by (with_reducible repeat (first | apply Kd.R_alloc | apply Kd.R_drewN | apply Kd.R_drew)); exact HO629.out)) k_ hk⟩))
          (case aO => exact (by (with_reducible repeat (first | apply Kd.R_alloc | apply Kd.R_drewN | apply Kd.R_drew)); exact Kd.R_mono HO633.out (fun _ hk => ⟨hk.1.1.2, ⟨hk.1.2, hk.2⟩⟩)))
          (case aS => exact (below_size (by repeat (first | (with_reducible first | exact HB.out | apply ba_ | apply bn_ | apply bd_ | refine below_set ?_ GE613.out | refine below_set ?_ GE620.out) | exact HB.out))))
          (case aL => have := LMc11.out; omega)
          intro v635 w36 ho hb hg hat
          rw [← Ny634.out] at ho
          have n0_ := Aside0.mk (blk_grown (g := gb613) (o := .cells #[.int .i64 a0_0, .int .u64 a0_1, .int .u64 a0_2, .int .u64 a0_3, .int .u64 a0_4] 25 (0, 0)) (by (with_reducible repeat (first | apply bN_ | apply bD_ | apply bA_)); exact BK613.out) hg (Kd.R_ne HO633.out BK613.out (by decide)))
          have n1_ := Aside0.mk (blk_grown (g := gb620) (o := .cells #[.int .i64 t615, .int .u64 t616, .int .u64 t617, .int .u64 t618, .int .u64 t619] 29 (0, 0)) (by (with_reducible repeat (first | apply bN_ | apply bD_ | apply bA_)); exact BK620.out) hg (Kd.R_ne HO633.out BK620.out (by decide)))
          have n2_ := Aside0.mk (Kd.R_after (ok := (fun k_ => some k_ ≠ (.slice Ao31 t624.length co31 : Value).ownBlock ∧ some k_ ≠ (v628 : Value).ownBlock)) (by (with_reducible repeat (first | apply Kd.R_alloc | apply Kd.R_drewN | apply Kd.R_drew)); exact Kd.R_mono HO623.out (fun _ hk => ⟨⟨hk.1.1.2, hk.1.2⟩, hk.2⟩)) hg hat)
          have n3_ := Aside0.mk (Kd.R_after (ok := (fun k_ => some k_ ≠ (.slice Ao37 t621.length co37 : Value).ownBlock ∧ some k_ ≠ (v628 : Value).ownBlock)) (by (with_reducible repeat (first | apply Kd.R_alloc | apply Kd.R_drewN | apply Kd.R_drew)); exact Kd.R_mono HO626.out (fun _ hk => ⟨⟨hk.1.1.2, hk.1.2⟩, hk.2⟩)) hg hat)
          have n4_ := Aside0.mk (Kd.R_after (ok := (fun k_ => some k_ ≠ (.slice Ao37 t621.length co37 : Value).ownBlock ∧ some k_ ≠ (.slice Ao31 t624.length co31 : Value).ownBlock)) (by (with_reducible repeat (first | apply Kd.R_alloc | apply Kd.R_drewN | apply Kd.R_drew)); exact Kd.R_mono HO629.out (fun _ hk => ⟨⟨hk.1.1.2, hk.1.2⟩, hk.2⟩)) hg hat)
          have n5_ := Aside0.mk (hb)
          have n6_ := Aside0.mk (ho)
          clear BK613
          clear BK620
          clear HO623
          clear HO626
          clear HO629
          clear HB
          clear HO633
          have BK613 := n0_
          have BK620 := n1_
          have HO623 := n2_
          have HO626 := n3_
          have HO629 := n4_
          have HB := n5_
          have HO636 := n6_
          clear n0_ n1_ n2_ n3_ n4_ n5_ n6_
          clear ho hb hg hat
          obtain ⟨Ao39, co39, eo39⟩ := Kd.R_slice HO629.out
          (first | subst eo39 | (injection eo39 with f1_ f2_ f3_; have f4_ := f1_.symm; have f5_ := f3_.symm; clear f1_ f2_ f3_; subst f4_; subst f5_))
          refine hK.out _ _ ⟨(blk_cell BK620.out 0).trans rfl, (blk_cell BK620.out 1).trans rfl, (blk_cell BK620.out 2).trans rfl, (blk_cell BK620.out 3).trans rfl, (blk_cell BK620.out 4).trans rfl⟩ (fun hHeld => ?_)
          clear hK K
          refine norm_ (a' := ?_) ?_ ?_
          rotate_left
          ·
           show Act.put _ (some 43) _ = _
           simp only [Act.put, List.setIfInBounds_toArray, List.set_cons_zero, List.set_cons_succ, i64_w, i32_w]
           rfl
          refine one_ (i := 5) (N := some 45) #[true, true, true, true, true, true, false, true, false, false, false, false, false, false] rfl rfl (one_of HT_.out (by kernel_rfl)) (by decide) (fun K hK => ?_)
          refine app_rows2 35 65 k65 (w0 := w) w.heap.size (by rfl) (.tmp 43) (.tmp 44) 34 65 (.agg #[(.int .i64 0), (.int .i64 0), (.int .i64 0)]) 24 rfl Tryd.underlying35 Tryd.underlying34 info65 rfl (by decide) (by omega) v635 y634 t627 _ _ _ (fun k_ => some k_ ≠ (.slice Ao37 t621.length co37 : Value).ownBlock ∧ some k_ ≠ (.slice Ao31 t624.length co31 : Value).ownBlock ∧ some k_ ≠ (.slice Ao39 t627.length co39 : Value).ownBlock) (fun _ => False) rfl rfl ?aO ?aR (fun _ _ h => h) (fun _ h => h.elim) ?aF ?aB ?aS ?aL ?_
          (case aR => repeat (first | exact (Kd.R_reads' HO629.out).2.2 | (with_reducible refine Kd.C_alloc ?_ _) | (with_reducible refine Kd.C_drewN ?_ _) | (with_reducible refine Kd.C_drew ?_)))
          (case aB => exact (by repeat (first | (with_reducible first | exact HB.out | apply ba_ | apply bn_ | apply bd_ | refine below_set ?_ GE613.out | refine below_set ?_ GE620.out) | exact HB.out)))
          (case aF => exact (fun k_ hk => ⟨Kd.fresh' (Kd.R_lt (by (with_reducible repeat (first | apply Kd.R_alloc | apply Kd.R_drewN | apply Kd.R_drew)); exact HO623.out)) k_ hk, Kd.fresh' (Kd.R_lt (by (with_reducible repeat (first | apply Kd.R_alloc | apply Kd.R_drewN | apply Kd.R_drew)); exact HO626.out)) k_ hk, Kd.fresh' (Kd.R_lt (by (with_reducible repeat (first | apply Kd.R_alloc | apply Kd.R_drewN | apply Kd.R_drew)); exact HO629.out)) k_ hk⟩))
          (case aO => exact (by (with_reducible repeat (first | apply Kd.R_alloc | apply Kd.R_drewN | apply Kd.R_drew)); exact HO636.out))
          (case aS => exact (below_size (by repeat (first | (with_reducible first | exact HB.out | apply ba_ | apply bn_ | apply bd_ | refine below_set ?_ GE613.out | refine below_set ?_ GE620.out) | exact HB.out))))
          (case aL => have := LMc12.out; omega)
          intro v638 w38 ho hb hg hat
          rw [← Ny637.out] at ho
          have n0_ := Aside0.mk (blk_grown (g := gb613) (o := .cells #[.int .i64 a0_0, .int .u64 a0_1, .int .u64 a0_2, .int .u64 a0_3, .int .u64 a0_4] 25 (0, 0)) (by (with_reducible repeat (first | apply bN_ | apply bD_ | apply bA_)); exact BK613.out) hg (Kd.R_ne HO636.out BK613.out (by decide)))
          have n1_ := Aside0.mk (blk_grown (g := gb620) (o := .cells #[.int .i64 t615, .int .u64 t616, .int .u64 t617, .int .u64 t618, .int .u64 t619] 29 (0, 0)) (by (with_reducible repeat (first | apply bN_ | apply bD_ | apply bA_)); exact BK620.out) hg (Kd.R_ne HO636.out BK620.out (by decide)))
          have n2_ := Aside0.mk (Kd.R_after (ok := (fun k_ => some k_ ≠ (.slice Ao31 t624.length co31 : Value).ownBlock ∧ some k_ ≠ (.slice Ao39 t627.length co39 : Value).ownBlock)) (by (with_reducible repeat (first | apply Kd.R_alloc | apply Kd.R_drewN | apply Kd.R_drew)); exact HO623.out) hg hat)
          have n3_ := Aside0.mk (Kd.R_after (ok := (fun k_ => some k_ ≠ (.slice Ao37 t621.length co37 : Value).ownBlock ∧ some k_ ≠ (.slice Ao39 t627.length co39 : Value).ownBlock)) (by (with_reducible repeat (first | apply Kd.R_alloc | apply Kd.R_drewN | apply Kd.R_drew)); exact HO626.out) hg hat)
          have n4_ := Aside0.mk (Kd.R_after (ok := (fun k_ => some k_ ≠ (.slice Ao37 t621.length co37 : Value).ownBlock ∧ some k_ ≠ (.slice Ao31 t624.length co31 : Value).ownBlock)) (by (with_reducible repeat (first | apply Kd.R_alloc | apply Kd.R_drewN | apply Kd.R_drew)); exact HO629.out) hg hat)
          have n5_ := Aside0.mk (hb)
          have n6_ := Aside0.mk (ho)
          clear BK613
          clear BK620
          clear HO623
          clear HO626
          clear HO629
          clear HB
          clear HO636
          have BK613 := n0_
          have BK620 := n1_
          have HO623 := n2_
          have HO626 := n3_
          have HO629 := n4_
          have HB := n5_
          have HO639 := n6_
          clear n0_ n1_ n2_ n3_ n4_ n5_ n6_
          clear ho hb hg hat
          obtain ⟨Ao40, co40, eo40⟩ := Kd.R_slice HO639.out
          (first | subst eo40 | (injection eo40 with f1_ f2_ f3_; have f4_ := f1_.symm; have f5_ := f3_.symm; clear f1_ f2_ f3_; subst f4_; subst f5_))
          refine hK.out _ _ ⟨(blk_cell BK620.out 0).trans rfl, (blk_cell BK620.out 1).trans rfl, (blk_cell BK620.out 2).trans rfl, (blk_cell BK620.out 3).trans rfl, (blk_cell BK620.out 4).trans rfl⟩ (fun hHeld => ?_)
          clear hK K
          refine norm_ (a' := ?_) ?_ ?_
          rotate_left
          ·
           show Act.put _ (some 45) _ = _
           simp only [Act.put, List.setIfInBounds_toArray, List.set_cons_zero, List.set_cons_succ, i64_w, i32_w]
           rfl
          refine one_ (i := 6) (N := some 46) #[true, true, true, true, true, true, true, true, false, false, false, false, false, false] rfl rfl (one_of HT_.out (by kernel_rfl)) (by decide) (fun K hK => ?_)
          refine goes_ Tryd.func37 (by kernel_rfl) rfl #[.slice Ao40 y637.length co40] (by rfl) rfl rfl (by (try simp only [List.map_toArray, List.map_cons, List.map_nil]); first | done | rfl | (simp only [List.length_drop, List.length_take]; rfl)) ?_
          with_reducible refine (XOf.calls _ _ y637 t640 _ ?side1 ?side2 A13.out).mono ?_
          (case side1 => repeat (first | exact (Kd.R_reads' HO639.out).2.2 | (with_reducible refine Kd.C_alloc ?_ _) | (with_reducible refine Kd.C_drewN ?_ _) | (with_reducible refine Kd.C_drew ?_)))
          (case side2 => exact (Kd.R_reads' HO639.out).2.1)
          rintro e w41 ⟨v641, rfl, ho0, hb⟩
          refine ⟨_, rfl, ?_⟩
          have n0_ := Aside0.mk (Kd.R_elder' (by (with_reducible repeat (first | apply Kd.R_alloc | apply Kd.R_drewN | apply Kd.R_drew)); exact HO623.out) (Kd.R_base ho0) hb)
          have n1_ := Aside0.mk (Kd.R_elder' (by (with_reducible repeat (first | apply Kd.R_alloc | apply Kd.R_drewN | apply Kd.R_drew)); exact HO626.out) (Kd.R_base ho0) hb)
          have n2_ := Aside0.mk (Kd.R_elder' (by (with_reducible repeat (first | apply Kd.R_alloc | apply Kd.R_drewN | apply Kd.R_drew)); exact HO629.out) (Kd.R_base ho0) hb)
          have n3_ := Aside0.mk (Kd.R_elder' (by (with_reducible repeat (first | apply Kd.R_alloc | apply Kd.R_drewN | apply Kd.R_drew)); exact HO639.out) (Kd.R_base ho0) hb)
          have n4_ := Aside0.mk (Kd.R_lower (Kd.R_new' (Kd.R_new' (Kd.R_new' (Kd.R_new' ho0 (Kd.R_lt (by (with_reducible repeat (first | apply Kd.R_alloc | apply Kd.R_drewN | apply Kd.R_drew)); exact HO623.out))) (Kd.R_lt (by (with_reducible repeat (first | apply Kd.R_alloc | apply Kd.R_drewN | apply Kd.R_drew)); exact HO626.out))) (Kd.R_lt (by (with_reducible repeat (first | apply Kd.R_alloc | apply Kd.R_drewN | apply Kd.R_drew)); exact HO629.out))) (Kd.R_lt (by (with_reducible repeat (first | apply Kd.R_alloc | apply Kd.R_drewN | apply Kd.R_drew)); exact HO639.out))) (below_size (by repeat (first | (with_reducible first | exact HB.out | apply ba_ | apply bn_ | apply bd_ | refine below_set ?_ GE613.out | refine below_set ?_ GE620.out) | exact HB.out))))
          have n5_ := Aside0.mk (blk_below (g := gb613) (o := .cells #[.int .i64 a0_0, .int .u64 a0_1, .int .u64 a0_2, .int .u64 a0_3, .int .u64 a0_4] 25 (0, 0)) (by (with_reducible repeat (first | apply bN_ | apply bD_ | apply bA_)); exact BK613.out) hb)
          have n6_ := Aside0.mk (blk_below (g := gb620) (o := .cells #[.int .i64 t615, .int .u64 t616, .int .u64 t617, .int .u64 t618, .int .u64 t619] 29 (0, 0)) (by (with_reducible repeat (first | apply bN_ | apply bD_ | apply bA_)); exact BK620.out) hb)
          have n7_ := Aside0.mk (below_step (by repeat (first | (with_reducible first | exact HB.out | apply ba_ | apply bn_ | apply bd_ | refine below_set ?_ GE613.out | refine below_set ?_ GE620.out) | exact HB.out)) hb)
          clear HO623
          clear HO626
          clear HO629
          clear HO639
          clear BK613
          clear BK620
          clear HB
          have HO623 := n0_
          have HO626 := n1_
          have HO629 := n2_
          have HO639 := n3_
          have HO642 := n4_
          have BK613 := n5_
          have BK620 := n6_
          have HB := n7_
          clear n0_ n1_ n2_ n3_ n4_ n5_ n6_ n7_
          (try clear hb)
          (try clear hb2)
          (try clear hk)
          (try clear hi)
          (try clear ho0)
          obtain ⟨Ao42, co42, eo42⟩ := Kd.R_slice HO642.out
          (first | subst eo42 | (injection eo42 with f1_ f2_ f3_; have f4_ := f1_.symm; have f5_ := f3_.symm; clear f1_ f2_ f3_; subst f4_; subst f5_))
          refine hK.out _ _ ⟨(blk_cell BK620.out 0).trans rfl, (blk_cell BK620.out 1).trans rfl, (blk_cell BK620.out 2).trans rfl, (blk_cell BK620.out 3).trans rfl, (blk_cell BK620.out 4).trans rfl⟩ (fun hHeld => ?_)
          clear hK K
          refine norm_ (a' := ?_) ?_ ?_
          rotate_left
          ·
           show Act.put _ (some 46) _ = _
           simp only [Act.put, List.setIfInBounds_toArray, List.set_cons_zero, List.set_cons_succ, i64_w, i32_w]
           rfl
          refine one_ (i := 8) (N := some 48) #[true, true, true, true, true, true, true, true, true, false, false, false, false, false] rfl rfl (one_of HT_.out (by kernel_rfl)) (by decide) (fun K hK => ?_)
          refine goes_ Tryd.func23 (by kernel_rfl) rfl #[.agg #[.int .i64 t615, .int .u64 t616, .int .u64 t617, .int .u64 t618, .int .u64 t619], .slice Ao42 t640.length co42, .int .i64 (Int.tmod (Go.bits .and .i64 a3 255) 5)] (by rfl) rfl rfl (by (try simp only [List.map_toArray, List.map_cons, List.map_nil]); first | done | rfl | (simp only [List.length_drop, List.length_take]; rfl)) ?_
          with_reducible refine (flat_Steps.calls k t615 t616 t617 t618 t619 (fun k_ => some k_ = (.slice Ao42 t640.length co42 : Value).ownBlock) _ _ t640 (Int.tmod (Go.bits .and .i64 a3 255) 5) t643 none _ ?side1 ?side2 A14.out).mono ?_
          (case side1 => exact HGSix.out.below (by repeat (first | (with_reducible first | exact HB.out | apply ba_ | apply bn_ | apply bd_ | refine below_set ?_ GE613.out | refine below_set ?_ GE620.out) | exact HB.out)))
          (case side2 => exact Kd.R_V (Kd.R_tight rfl (Kd.R_types (Kd.R_types (HO642.out) BK613.out (by decide)) BK620.out (by decide))))
          rintro e w43 ⟨v644, rfl, ho0, hb⟩
          refine ⟨_, rfl, ?_⟩
          have n0_ := Aside0.mk (Kd.R_elder' (by (with_reducible repeat (first | apply Kd.R_alloc | apply Kd.R_drewN | apply Kd.R_drew)); exact HO623.out) (Kd.R_base ho0) hb)
          have n1_ := Aside0.mk (Kd.R_elder' (by (with_reducible repeat (first | apply Kd.R_alloc | apply Kd.R_drewN | apply Kd.R_drew)); exact HO626.out) (Kd.R_base ho0) hb)
          have n2_ := Aside0.mk (Kd.R_elder' (by (with_reducible repeat (first | apply Kd.R_alloc | apply Kd.R_drewN | apply Kd.R_drew)); exact HO629.out) (Kd.R_base ho0) hb)
          have n3_ := Aside0.mk (Kd.R_elder' (by (with_reducible repeat (first | apply Kd.R_alloc | apply Kd.R_drewN | apply Kd.R_drew)); exact HO639.out) (Kd.R_base ho0) hb)
          have n4_ := Aside0.mk (Kd.R_elder' (by (with_reducible repeat (first | apply Kd.R_alloc | apply Kd.R_drewN | apply Kd.R_drew)); exact HO642.out) (Kd.R_base ho0) hb)
          have n5_ := Aside0.mk (Kd.R_lower (Kd.R_new' (Kd.R_new' (Kd.R_new' (Kd.R_new' (Kd.R_new' (Kd.R_mono (ok' := fun k_ => True) ho0 (fun _ hk_ => trivial)) (Kd.R_lt (by (with_reducible repeat (first | apply Kd.R_alloc | apply Kd.R_drewN | apply Kd.R_drew)); exact HO623.out))) (Kd.R_lt (by (with_reducible repeat (first | apply Kd.R_alloc | apply Kd.R_drewN | apply Kd.R_drew)); exact HO626.out))) (Kd.R_lt (by (with_reducible repeat (first | apply Kd.R_alloc | apply Kd.R_drewN | apply Kd.R_drew)); exact HO629.out))) (Kd.R_lt (by (with_reducible repeat (first | apply Kd.R_alloc | apply Kd.R_drewN | apply Kd.R_drew)); exact HO639.out))) (Kd.R_lt (by (with_reducible repeat (first | apply Kd.R_alloc | apply Kd.R_drewN | apply Kd.R_drew)); exact HO642.out))) (below_size (by repeat (first | (with_reducible first | exact HB.out | apply ba_ | apply bn_ | apply bd_ | refine below_set ?_ GE613.out | refine below_set ?_ GE620.out) | exact HB.out))))
          have n6_ := Aside0.mk (blk_below (g := gb613) (o := .cells #[.int .i64 a0_0, .int .u64 a0_1, .int .u64 a0_2, .int .u64 a0_3, .int .u64 a0_4] 25 (0, 0)) (by (with_reducible repeat (first | apply bN_ | apply bD_ | apply bA_)); exact BK613.out) hb)
          have n7_ := Aside0.mk (blk_below (g := gb620) (o := .cells #[.int .i64 t615, .int .u64 t616, .int .u64 t617, .int .u64 t618, .int .u64 t619] 29 (0, 0)) (by (with_reducible repeat (first | apply bN_ | apply bD_ | apply bA_)); exact BK620.out) hb)
          have n8_ := Aside0.mk (below_step (by repeat (first | (with_reducible first | exact HB.out | apply ba_ | apply bn_ | apply bd_ | refine below_set ?_ GE613.out | refine below_set ?_ GE620.out) | exact HB.out)) hb)
          clear HO623
          clear HO626
          clear HO629
          clear HO639
          clear HO642
          clear BK613
          clear BK620
          clear HB
          have HO623 := n0_
          have HO626 := n1_
          have HO629 := n2_
          have HO639 := n3_
          have HO642 := n4_
          have HO645 := n5_
          have BK613 := n6_
          have BK620 := n7_
          have HB := n8_
          clear n0_ n1_ n2_ n3_ n4_ n5_ n6_ n7_ n8_
          (try clear hb)
          (try clear hb2)
          (try clear hk)
          (try clear hi)
          (try clear ho0)
          (try simp only [errW_none, errW_some])
          refine hK.out _ _ ⟨(blk_cell BK620.out 0).trans rfl, (blk_cell BK620.out 1).trans rfl, (blk_cell BK620.out 2).trans rfl, (blk_cell BK620.out 3).trans rfl, (blk_cell BK620.out 4).trans rfl⟩ (fun hHeld => ?_)
          clear hK K
          refine norm_ (a' := ?_) ?_ ?_
          rotate_left
          ·
           show Act.put _ (some 48) _ = _
           simp only [Act.put, List.setIfInBounds_toArray, List.set_cons_zero, List.set_cons_succ, i64_w, i32_w]
           rfl
          refine pure_ (i := 9) (N := some 39) (v := ?_) (a' := ?_) #[true, true, true, true, true, true, true, true, true, true, false, false, false, false] rfl rfl (any_of HT_.out (by kernel_rfl)) (fun _ _ _ h => h) (Or.inl ⟨by rfl, ?_⟩) ?_ ?_
          rotate_left
          ·
           intro w'
           go_simp
           with_reducible rfl
          rotate_left
          ·
           simp only [Act.put, List.setIfInBounds_toArray, List.set_cons_zero, List.set_cons_succ, i64_w, i32_w]
           rfl
          refine pure_ (i := 10) (N := some 49) (v := ?_) (a' := ?_) #[true, true, true, true, true, true, true, true, true, true, true, false, false, false] rfl rfl (any_of HT_.out (by kernel_rfl)) (fun _ _ _ h => h) (Or.inl ⟨by rfl, ?_⟩) ?_ ?_
          rotate_left
          ·
           intro w'
           go_simp
           with_reducible rfl
          rotate_left
          ·
           simp only [Act.put, List.setIfInBounds_toArray, List.set_cons_zero, List.set_cons_succ, i64_w, i32_w]
           rfl
          refine pure_ (i := 11) (N := some 50) (v := ?_) (a' := ?_) #[true, true, true, true, true, true, true, true, true, true, true, true, false, false] rfl rfl (any_of HT_.out (by kernel_rfl)) (fun _ _ _ h => h) (Or.inl ⟨by rfl, ?_⟩) ?_ ?_
          rotate_left
          ·
           intro w'
           go_simp
           with_reducible rfl
          rotate_left
          ·
           simp only [Act.put, List.setIfInBounds_toArray, List.set_cons_zero, List.set_cons_succ, i64_w, i32_w]
           rfl
          refine pure_ (i := 12) (N := some 13) (v := ?_) (a' := ?_) #[true, true, true, true, true, true, true, true, true, true, true, true, true, false] rfl rfl (any_of HT_.out (by kernel_rfl)) (fun _ _ _ h => h) (Or.inl ⟨by rfl, ?_⟩) ?_ ?_
          rotate_left
          ·
           intro w'
           go_simp
           with_reducible rfl
          rotate_left
          ·
           simp only [Act.put, List.setIfInBounds_toArray, List.set_cons_zero, List.set_cons_succ, i64_w, i32_w]
           rfl
          refine pure_ (i := 13) (N := some 14) (v := ?_) (a' := ?_) #[true, true, true, true, true, true, true, true, true, true, true, true, true, true] rfl rfl (any_of HT_.out (by kernel_rfl)) (fun _ _ _ h => h) (Or.inl ⟨by rfl, ?_⟩) ?_ ?_
          rotate_left
          ·
           intro w'
           go_simp
           with_reducible rfl
          rotate_left
          ·
           simp only [Act.put, List.setIfInBounds_toArray, List.set_cons_zero, List.set_cons_succ, i64_w, i32_w]
           rfl
          refine done_ (done_of HT_.out (by kernel_rfl)) ?_
          have hcz44_0 : w43.cell? ⟨gb620, 0, none⟩ = some (.int .i64 t615) := (blk_cell BK620.out 0).trans rfl
          have hcz44_1 : w43.cell? ⟨gb620, 1, none⟩ = some (.int .u64 t616) := (blk_cell BK620.out 1).trans rfl
          have hcz44_2 : w43.cell? ⟨gb620, 2, none⟩ = some (.int .u64 t617) := (blk_cell BK620.out 2).trans rfl
          have hcz44_3 : w43.cell? ⟨gb620, 3, none⟩ = some (.int .u64 t618) := (blk_cell BK620.out 3).trans rfl
          have hcz44_4 : w43.cell? ⟨gb620, 4, none⟩ = some (.int .u64 t619) := (blk_cell BK620.out 4).trans rfl
          have hfz44_0 := blk_frozen BK620.out 0
          have hfz44_1 := blk_frozen BK620.out 1
          have hfz44_2 := blk_frozen BK620.out 2
          have hfz44_3 := blk_frozen BK620.out 3
          have hfz44_4 := blk_frozen BK620.out 4
          try go_wp2_with (first | ((with_reducible refine gate_callee (f := 23) rfl ?_); refine goesL_ (some 55) rfl rfl Tryd.func23 (by kernel_rfl) rfl #[.agg #[.int .i64 t615, .int .u64 t616, .int .u64 t617, .int .u64 t618, .int .u64 t619], .slice Ao37 t621.length co37, .int .i64 (Int.tmod (Go.bits .and .i64 a3 255) 5)] rfl (by (try simp only [List.map_toArray, List.map_cons, List.map_nil]); first | done | rfl | (simp only [List.length_drop, List.length_take]; rfl)) ?_; (with_reducible refine (flat_Steps.calls k t615 t616 t617 t618 t619 (fun k_ => some k_ = (.slice Ao37 t621.length co37 : Value).ownBlock) _ _ t621 (Int.tmod (Go.bits .and .i64 a3 255) 5) t647 none _ ?side1 ?side2 A15.out).mono ?_); (case side1 => exact HGSix.out.below (by repeat (first | (with_reducible first | exact HB.out | apply ba_ | apply bn_ | apply bd_ | refine below_set ?_ GE613.out | refine below_set ?_ GE620.out) | exact HB.out))); (case side2 => exact Kd.R_V (Kd.R_tight rfl (Kd.R_types (Kd.R_types (HO623.out) BK613.out (by decide)) BK620.out (by decide)))); rintro e w45 ⟨v648, rfl, ho0, hb⟩; refine ⟨_, rfl, ?_⟩; have n0_ := Aside0.mk (Kd.R_elder' (by (with_reducible repeat (first | apply Kd.R_alloc | apply Kd.R_drewN | apply Kd.R_drew)); exact HO623.out) (Kd.R_base ho0) hb); have n1_ := Aside0.mk (Kd.R_elder' (by (with_reducible repeat (first | apply Kd.R_alloc | apply Kd.R_drewN | apply Kd.R_drew)); exact HO626.out) (Kd.R_base ho0) hb); have n2_ := Aside0.mk (Kd.R_elder' (by (with_reducible repeat (first | apply Kd.R_alloc | apply Kd.R_drewN | apply Kd.R_drew)); exact HO629.out) (Kd.R_base ho0) hb); have n3_ := Aside0.mk (Kd.R_elder' (by (with_reducible repeat (first | apply Kd.R_alloc | apply Kd.R_drewN | apply Kd.R_drew)); exact HO639.out) (Kd.R_base ho0) hb); have n4_ := Aside0.mk (Kd.R_elder' (by (with_reducible repeat (first | apply Kd.R_alloc | apply Kd.R_drewN | apply Kd.R_drew)); exact HO642.out) (Kd.R_base ho0) hb); have n5_ := Aside0.mk (Kd.R_elder' (by (with_reducible repeat (first | apply Kd.R_alloc | apply Kd.R_drewN | apply Kd.R_drew)); exact HO645.out) (Kd.R_base ho0) hb); have n6_ := Aside0.mk (Kd.R_lower (Kd.R_new' (Kd.R_new' (Kd.R_new' (Kd.R_new' (Kd.R_new' (Kd.R_new' (Kd.R_mono (ok' := fun k_ => True) ho0 (fun _ hk_ => trivial)) (Kd.R_lt (by (with_reducible repeat (first | apply Kd.R_alloc | apply Kd.R_drewN | apply Kd.R_drew)); exact HO623.out))) (Kd.R_lt (by (with_reducible repeat (first | apply Kd.R_alloc | apply Kd.R_drewN | apply Kd.R_drew)); exact HO626.out))) (Kd.R_lt (by (with_reducible repeat (first | apply Kd.R_alloc | apply Kd.R_drewN | apply Kd.R_drew)); exact HO629.out))) (Kd.R_lt (by (with_reducible repeat (first | apply Kd.R_alloc | apply Kd.R_drewN | apply Kd.R_drew)); exact HO639.out))) (Kd.R_lt (by (with_reducible repeat (first | apply Kd.R_alloc | apply Kd.R_drewN | apply Kd.R_drew)); exact HO642.out))) (Kd.R_lt (by (with_reducible repeat (first | apply Kd.R_alloc | apply Kd.R_drewN | apply Kd.R_drew)); exact HO645.out))) (below_size (by repeat (first | (with_reducible first | exact HB.out | apply ba_ | apply bn_ | apply bd_ | refine below_set ?_ GE613.out | refine below_set ?_ GE620.out) | exact HB.out)))); have n7_ := Aside0.mk (blk_below (g := gb613) (o := .cells #[.int .i64 a0_0, .int .u64 a0_1, .int .u64 a0_2, .int .u64 a0_3, .int .u64 a0_4] 25 (0, 0)) (by (with_reducible repeat (first | apply bN_ | apply bD_ | apply bA_)); exact BK613.out) hb); have n8_ := Aside0.mk (blk_below (g := gb620) (o := .cells #[.int .i64 t615, .int .u64 t616, .int .u64 t617, .int .u64 t618, .int .u64 t619] 29 (0, 0)) (by (with_reducible repeat (first | apply bN_ | apply bD_ | apply bA_)); exact BK620.out) hb); have n9_ := Aside0.mk (below_step (by repeat (first | (with_reducible first | exact HB.out | apply ba_ | apply bn_ | apply bd_ | refine below_set ?_ GE613.out | refine below_set ?_ GE620.out) | exact HB.out)) hb); clear HO623; clear HO626; clear HO629; clear HO639; clear HO642; clear HO645; clear BK613; clear BK620; clear HB; have HO623 := n0_; have HO626 := n1_; have HO629 := n2_; have HO639 := n3_; have HO642 := n4_; have HO645 := n5_; have HO649 := n6_; have BK613 := n7_; have BK620 := n8_; have HB := n9_; clear n0_ n1_ n2_ n3_ n4_ n5_ n6_ n7_ n8_ n9_; (try clear hb); (try clear hb2); (try clear hk); (try clear hi); (try clear ho0); (try simp only [errW_none, errW_some]); have hcz46_0 : w45.cell? ⟨gb620, 0, none⟩ = some (.int .i64 t615) := (blk_cell BK620.out 0).trans rfl; have hcz46_1 : w45.cell? ⟨gb620, 1, none⟩ = some (.int .u64 t616) := (blk_cell BK620.out 1).trans rfl; have hcz46_2 : w45.cell? ⟨gb620, 2, none⟩ = some (.int .u64 t617) := (blk_cell BK620.out 2).trans rfl; have hcz46_3 : w45.cell? ⟨gb620, 3, none⟩ = some (.int .u64 t618) := (blk_cell BK620.out 3).trans rfl; have hcz46_4 : w45.cell? ⟨gb620, 4, none⟩ = some (.int .u64 t619) := (blk_cell BK620.out 4).trans rfl; have hfz46_0 := blk_frozen BK620.out 0; have hfz46_1 := blk_frozen BK620.out 1; have hfz46_2 := blk_frozen BK620.out 2; have hfz46_3 := blk_frozen BK620.out 3; have hfz46_4 := blk_frozen BK620.out 4) | ((with_reducible refine gate_callee (f := 23) rfl ?_); refine goesL_ (some 62) rfl rfl Tryd.func23 (by kernel_rfl) rfl #[.agg #[.int .i64 t615, .int .u64 t616, .int .u64 t617, .int .u64 t618, .int .u64 t619], .slice Ao39 t627.length co39, .int .i64 (Int.tmod (Go.bits .and .i64 a3 255) 5)] rfl (by (try simp only [List.map_toArray, List.map_cons, List.map_nil]); first | done | rfl | (simp only [List.length_drop, List.length_take]; rfl)) ?_; (with_reducible refine (flat_Steps.calls k t615 t616 t617 t618 t619 (fun k_ => some k_ = (.slice Ao39 t627.length co39 : Value).ownBlock) _ _ t627 (Int.tmod (Go.bits .and .i64 a3 255) 5) t651 none _ ?side1 ?side2 A16.out).mono ?_); (case side1 => exact HGSix.out.below (by repeat (first | (with_reducible first | exact HB.out | apply ba_ | apply bn_ | apply bd_ | refine below_set ?_ GE613.out | refine below_set ?_ GE620.out) | exact HB.out))); (case side2 => exact Kd.R_V (Kd.R_tight rfl (Kd.R_types (Kd.R_types (HO629.out) BK613.out (by decide)) BK620.out (by decide)))); rintro e w47 ⟨v652, rfl, ho0, hb⟩; refine ⟨_, rfl, ?_⟩; have n0_ := Aside0.mk (Kd.R_elder' (by (with_reducible repeat (first | apply Kd.R_alloc | apply Kd.R_drewN | apply Kd.R_drew)); exact HO623.out) (Kd.R_base ho0) hb); have n1_ := Aside0.mk (Kd.R_elder' (by (with_reducible repeat (first | apply Kd.R_alloc | apply Kd.R_drewN | apply Kd.R_drew)); exact HO626.out) (Kd.R_base ho0) hb); have n2_ := Aside0.mk (Kd.R_elder' (by (with_reducible repeat (first | apply Kd.R_alloc | apply Kd.R_drewN | apply Kd.R_drew)); exact HO629.out) (Kd.R_base ho0) hb); have n3_ := Aside0.mk (Kd.R_elder' (by (with_reducible repeat (first | apply Kd.R_alloc | apply Kd.R_drewN | apply Kd.R_drew)); exact HO639.out) (Kd.R_base ho0) hb); have n4_ := Aside0.mk (Kd.R_elder' (by (with_reducible repeat (first | apply Kd.R_alloc | apply Kd.R_drewN | apply Kd.R_drew)); exact HO642.out) (Kd.R_base ho0) hb); have n5_ := Aside0.mk (Kd.R_elder' (by (with_reducible repeat (first | apply Kd.R_alloc | apply Kd.R_drewN | apply Kd.R_drew)); exact HO645.out) (Kd.R_base ho0) hb); have n6_ := Aside0.mk (Kd.R_elder' (by (with_reducible repeat (first | apply Kd.R_alloc | apply Kd.R_drewN | apply Kd.R_drew)); exact HO649.out) (Kd.R_base ho0) hb); have n7_ := Aside0.mk (Kd.R_lower (Kd.R_new' (Kd.R_new' (Kd.R_new' (Kd.R_new' (Kd.R_new' (Kd.R_new' (Kd.R_new' (Kd.R_mono (ok' := fun k_ => True) ho0 (fun _ hk_ => trivial)) (Kd.R_lt (by (with_reducible repeat (first | apply Kd.R_alloc | apply Kd.R_drewN | apply Kd.R_drew)); exact HO623.out))) (Kd.R_lt (by (with_reducible repeat (first | apply Kd.R_alloc | apply Kd.R_drewN | apply Kd.R_drew)); exact HO626.out))) (Kd.R_lt (by (with_reducible repeat (first | apply Kd.R_alloc | apply Kd.R_drewN | apply Kd.R_drew)); exact HO629.out))) (Kd.R_lt (by (with_reducible repeat (first | apply Kd.R_alloc | apply Kd.R_drewN | apply Kd.R_drew)); exact HO639.out))) (Kd.R_lt (by (with_reducible repeat (first | apply Kd.R_alloc | apply Kd.R_drewN | apply Kd.R_drew)); exact HO642.out))) (Kd.R_lt (by (with_reducible repeat (first | apply Kd.R_alloc | apply Kd.R_drewN | apply Kd.R_drew)); exact HO645.out))) (Kd.R_lt (by (with_reducible repeat (first | apply Kd.R_alloc | apply Kd.R_drewN | apply Kd.R_drew)); exact HO649.out))) (below_size (by repeat (first | (with_reducible first | exact HB.out | apply ba_ | apply bn_ | apply bd_ | refine below_set ?_ GE613.out | refine below_set ?_ GE620.out) | exact HB.out)))); have n8_ := Aside0.mk (blk_below (g := gb613) (o := .cells #[.int .i64 a0_0, .int .u64 a0_1, .int .u64 a0_2, .int .u64 a0_3, .int .u64 a0_4] 25 (0, 0)) (by (with_reducible repeat (first | apply bN_ | apply bD_ | apply bA_)); exact BK613.out) hb); have n9_ := Aside0.mk (blk_below (g := gb620) (o := .cells #[.int .i64 t615, .int .u64 t616, .int .u64 t617, .int .u64 t618, .int .u64 t619] 29 (0, 0)) (by (with_reducible repeat (first | apply bN_ | apply bD_ | apply bA_)); exact BK620.out) hb); have n10_ := Aside0.mk (below_step (by repeat (first | (with_reducible first | exact HB.out | apply ba_ | apply bn_ | apply bd_ | refine below_set ?_ GE613.out | refine below_set ?_ GE620.out) | exact HB.out)) hb); clear HO623; clear HO626; clear HO629; clear HO639; clear HO642; clear HO645; clear HO649; clear BK613; clear BK620; clear HB; have HO623 := n0_; have HO626 := n1_; have HO629 := n2_; have HO639 := n3_; have HO642 := n4_; have HO645 := n5_; have HO649 := n6_; have HO653 := n7_; have BK613 := n8_; have BK620 := n9_; have HB := n10_; clear n0_ n1_ n2_ n3_ n4_ n5_ n6_ n7_ n8_ n9_ n10_; (try clear hb); (try clear hb2); (try clear hk); (try clear hi); (try clear ho0); (try simp only [errW_none, errW_some])) | ((with_reducible refine gate_dst (N := 81) rfl ?_); (try (refine gate_guard (by rfl) ?_; dsimp only)); refine Kd.R_lit k65 _ 65 ?hg (N := 81) ?hd (xs := ([] : List (S65))) (inner := []) (ok := fun _ => True) (okp := fun _ => True) ?hr ?hp (fun _ hk => hk) trivial (Below.refl _ _) (Nat.le_refl _) (by simp) ?_; (case hd => rfl); (case hg => rfl); (case hr => first | (go_simp; done) | (go_simp; rfl)); (case hp => exact (Reps.none _ _)); intro v660 w48 ho49 hb hg_ hnew_; clear hg_ hnew_; (first | rw [← Ny659.out] at ho49 | (simp only [Int.reduceToNat] at ho49; rw [← Ny659.out] at ho49)); have n0_ := Aside0.mk (Kd.R_elder' (by (with_reducible repeat (first | apply Kd.R_alloc | apply Kd.R_drewN | apply Kd.R_drew)); exact HO623.out) (Kd.R_base ho49) hb); have n1_ := Aside0.mk (Kd.R_elder' (by (with_reducible repeat (first | apply Kd.R_alloc | apply Kd.R_drewN | apply Kd.R_drew)); exact HO626.out) (Kd.R_base ho49) hb); have n2_ := Aside0.mk (Kd.R_elder' (by (with_reducible repeat (first | apply Kd.R_alloc | apply Kd.R_drewN | apply Kd.R_drew)); exact HO629.out) (Kd.R_base ho49) hb); have n3_ := Aside0.mk (Kd.R_elder' (by (with_reducible repeat (first | apply Kd.R_alloc | apply Kd.R_drewN | apply Kd.R_drew)); exact HO639.out) (Kd.R_base ho49) hb); have n4_ := Aside0.mk (Kd.R_elder' (by (with_reducible repeat (first | apply Kd.R_alloc | apply Kd.R_drewN | apply Kd.R_drew)); exact HO642.out) (Kd.R_base ho49) hb); have n5_ := Aside0.mk (Kd.R_elder' (by (with_reducible repeat (first | apply Kd.R_alloc | apply Kd.R_drewN | apply Kd.R_drew)); exact HO645.out) (Kd.R_base ho49) hb); have n6_ := Aside0.mk (Kd.R_elder' (by (with_reducible repeat (first | apply Kd.R_alloc | apply Kd.R_drewN | apply Kd.R_drew)); exact HO649.out) (Kd.R_base ho49) hb); have n7_ := Aside0.mk (Kd.R_elder' (by (with_reducible repeat (first | apply Kd.R_alloc | apply Kd.R_drewN | apply Kd.R_drew)); exact HO653.out) (Kd.R_base ho49) hb); have n8_ := Aside0.mk (Kd.R_lower (Kd.R_new' (Kd.R_new' (Kd.R_new' (Kd.R_new' (Kd.R_new' (Kd.R_new' (Kd.R_new' (Kd.R_new' ho49 (Kd.R_lt (by (with_reducible repeat (first | apply Kd.R_alloc | apply Kd.R_drewN | apply Kd.R_drew)); exact HO623.out))) (Kd.R_lt (by (with_reducible repeat (first | apply Kd.R_alloc | apply Kd.R_drewN | apply Kd.R_drew)); exact HO626.out))) (Kd.R_lt (by (with_reducible repeat (first | apply Kd.R_alloc | apply Kd.R_drewN | apply Kd.R_drew)); exact HO629.out))) (Kd.R_lt (by (with_reducible repeat (first | apply Kd.R_alloc | apply Kd.R_drewN | apply Kd.R_drew)); exact HO639.out))) (Kd.R_lt (by (with_reducible repeat (first | apply Kd.R_alloc | apply Kd.R_drewN | apply Kd.R_drew)); exact HO642.out))) (Kd.R_lt (by (with_reducible repeat (first | apply Kd.R_alloc | apply Kd.R_drewN | apply Kd.R_drew)); exact HO645.out))) (Kd.R_lt (by (with_reducible repeat (first | apply Kd.R_alloc | apply Kd.R_drewN | apply Kd.R_drew)); exact HO649.out))) (Kd.R_lt (by (with_reducible repeat (first | apply Kd.R_alloc | apply Kd.R_drewN | apply Kd.R_drew)); exact HO653.out))) (below_size (by repeat (first | (with_reducible first | exact HB.out | apply ba_ | apply bn_ | apply bd_ | refine below_set ?_ GE613.out | refine below_set ?_ GE620.out) | exact HB.out)))); have n9_ := Aside0.mk (blk_below (g := gb613) (o := .cells #[.int .i64 a0_0, .int .u64 a0_1, .int .u64 a0_2, .int .u64 a0_3, .int .u64 a0_4] 25 (0, 0)) (by (with_reducible repeat (first | apply bN_ | apply bD_ | apply bA_)); exact BK613.out) hb); have n10_ := Aside0.mk (blk_below (g := gb620) (o := .cells #[.int .i64 t615, .int .u64 t616, .int .u64 t617, .int .u64 t618, .int .u64 t619] 29 (0, 0)) (by (with_reducible repeat (first | apply bN_ | apply bD_ | apply bA_)); exact BK620.out) hb); have n11_ := Aside0.mk (below_step (by repeat (first | (with_reducible first | exact HB.out | apply ba_ | apply bn_ | apply bd_ | refine below_set ?_ GE613.out | refine below_set ?_ GE620.out) | exact HB.out)) hb); clear HO623; clear HO626; clear HO629; clear HO639; clear HO642; clear HO645; clear HO649; clear HO653; clear BK613; clear BK620; clear HB; have HO623 := n0_; have HO626 := n1_; have HO629 := n2_; have HO639 := n3_; have HO642 := n4_; have HO645 := n5_; have HO649 := n6_; have HO653 := n7_; have HO661 := n8_; have BK613 := n9_; have BK620 := n10_; have HB := n11_; clear n0_ n1_ n2_ n3_ n4_ n5_ n6_ n7_ n8_ n9_ n10_ n11_; clear hb ho49; obtain ⟨Ao51, co51, eo51⟩ := Kd.R_slice HO649.out; subst eo51) | ((with_reducible refine gate_builtin (b := .append) (xs := #[.tmp 81, .tmp 82]) rfl ?_); (try (refine gate_guard (by rfl) ?_; dsimp only)); at_builtin; refine app_rows2p 35 65 k65 (w0 := w) w.heap.size rfl (.tmp 81) (.tmp 82) 34 65 (.agg #[(.int .i64 0), (.int .i64 0), (.int .i64 0)]) 24 rfl Tryd.underlying35 Tryd.underlying34 info65 rfl (by decide) (by omega) v660 y659 t647 _ _ _ (fun k_ => some k_ ≠ (.slice Ao37 t621.length co37 : Value).ownBlock ∧ some k_ ≠ (.slice Ao31 t624.length co31 : Value).ownBlock ∧ some k_ ≠ (.slice Ao39 t627.length co39 : Value).ownBlock ∧ some k_ ≠ (.slice Ao40 y637.length co40 : Value).ownBlock ∧ some k_ ≠ (.slice Ao42 t640.length co42 : Value).ownBlock ∧ some k_ ≠ (v644 : Value).ownBlock ∧ some k_ ≠ (.slice Ao51 t647.length co51 : Value).ownBlock ∧ some k_ ≠ (v652 : Value).ownBlock) (fun _ => False) rfl rfl ?aO ?aR (fun _ _ h => h) (fun _ h => h.elim) ?aF ?aB ?aS ?aL ?_; (case aR => repeat (first | exact (Kd.R_reads' HO649.out).2.2 | (with_reducible refine Kd.C_alloc ?_ _) | (with_reducible refine Kd.C_drewN ?_ _) | (with_reducible refine Kd.C_drew ?_))); (case aB => exact (by repeat (first | (with_reducible first | exact HB.out | apply ba_ | apply bn_ | apply bd_ | refine below_set ?_ GE613.out | refine below_set ?_ GE620.out) | exact HB.out))); (case aF => exact (fun k_ hk => ⟨Kd.fresh' (Kd.R_lt (by (with_reducible repeat (first | apply Kd.R_alloc | apply Kd.R_drewN | apply Kd.R_drew)); exact HO623.out)) k_ hk, Kd.fresh' (Kd.R_lt (by (with_reducible repeat (first | apply Kd.R_alloc | apply Kd.R_drewN | apply Kd.R_drew)); exact HO626.out)) k_ hk, Kd.fresh' (Kd.R_lt (by (with_reducible repeat (first | apply Kd.R_alloc | apply Kd.R_drewN | apply Kd.R_drew)); exact HO629.out)) k_ hk, Kd.fresh' (Kd.R_lt (by (with_reducible repeat (first | apply Kd.R_alloc | apply Kd.R_drewN | apply Kd.R_drew)); exact HO639.out)) k_ hk, Kd.fresh' (Kd.R_lt (by (with_reducible repeat (first | apply Kd.R_alloc | apply Kd.R_drewN | apply Kd.R_drew)); exact HO642.out)) k_ hk, Kd.fresh' (Kd.R_lt (by (with_reducible repeat (first | apply Kd.R_alloc | apply Kd.R_drewN | apply Kd.R_drew)); exact HO645.out)) k_ hk, Kd.fresh' (Kd.R_lt (by (with_reducible repeat (first | apply Kd.R_alloc | apply Kd.R_drewN | apply Kd.R_drew)); exact HO649.out)) k_ hk, Kd.fresh' (Kd.R_lt (by (with_reducible repeat (first | apply Kd.R_alloc | apply Kd.R_drewN | apply Kd.R_drew)); exact HO653.out)) k_ hk⟩)); (case aO => exact (by (with_reducible repeat (first | apply Kd.R_alloc | apply Kd.R_drewN | apply Kd.R_drew)); exact Kd.R_mono HO661.out (fun _ hk => ⟨hk.1.1.1.1.1.1.1.2, ⟨hk.1.1.1.1.1.1.2, ⟨hk.1.1.1.1.1.2, ⟨hk.1.1.1.1.2, ⟨hk.1.1.1.2, ⟨hk.1.1.2, ⟨hk.1.2, hk.2⟩⟩⟩⟩⟩⟩⟩))); (case aS => exact (below_size (by repeat (first | (with_reducible first | exact HB.out | apply ba_ | apply bn_ | apply bd_ | refine below_set ?_ GE613.out | refine below_set ?_ GE620.out) | exact HB.out)))); (case aL => have := LMc17.out; omega); intro v663 w50 ho hb hg hat; rw [← Ny662.out] at ho; have n0_ := Aside0.mk (blk_grown (g := gb613) (o := .cells #[.int .i64 a0_0, .int .u64 a0_1, .int .u64 a0_2, .int .u64 a0_3, .int .u64 a0_4] 25 (0, 0)) (by (with_reducible repeat (first | apply bN_ | apply bD_ | apply bA_)); exact BK613.out) hg (Kd.R_ne HO661.out BK613.out (by decide))); have n1_ := Aside0.mk (blk_grown (g := gb620) (o := .cells #[.int .i64 t615, .int .u64 t616, .int .u64 t617, .int .u64 t618, .int .u64 t619] 29 (0, 0)) (by (with_reducible repeat (first | apply bN_ | apply bD_ | apply bA_)); exact BK620.out) hg (Kd.R_ne HO661.out BK620.out (by decide))); have n2_ := Aside0.mk (Kd.R_after (ok := (fun k_ => some k_ ≠ (.slice Ao31 t624.length co31 : Value).ownBlock ∧ some k_ ≠ (.slice Ao39 t627.length co39 : Value).ownBlock ∧ some k_ ≠ (.slice Ao40 y637.length co40 : Value).ownBlock ∧ some k_ ≠ (.slice Ao42 t640.length co42 : Value).ownBlock ∧ some k_ ≠ (v644 : Value).ownBlock ∧ some k_ ≠ (.slice Ao51 t647.length co51 : Value).ownBlock ∧ some k_ ≠ (v652 : Value).ownBlock)) (by (with_reducible repeat (first | apply Kd.R_alloc | apply Kd.R_drewN | apply Kd.R_drew)); exact Kd.R_mono HO623.out (fun _ hk => ⟨⟨hk.1.1.1.1.1.1.1, ⟨hk.1.1.1.1.1.1.2, ⟨hk.1.1.1.1.1.2, ⟨hk.1.1.1.1.2, ⟨hk.1.1.1.2, ⟨hk.1.1.2, hk.1.2⟩⟩⟩⟩⟩⟩, hk.2⟩)) hg hat); have n3_ := Aside0.mk (Kd.R_after (ok := (fun k_ => some k_ ≠ (.slice Ao37 t621.length co37 : Value).ownBlock ∧ some k_ ≠ (.slice Ao39 t627.length co39 : Value).ownBlock ∧ some k_ ≠ (.slice Ao40 y637.length co40 : Value).ownBlock ∧ some k_ ≠ (.slice Ao42 t640.length co42 : Value).ownBlock ∧ some k_ ≠ (v644 : Value).ownBlock ∧ some k_ ≠ (.slice Ao51 t647.length co51 : Value).ownBlock ∧ some k_ ≠ (v652 : Value).ownBlock)) (by (with_reducible repeat (first | apply Kd.R_alloc | apply Kd.R_drewN | apply Kd.R_drew)); exact Kd.R_mono HO626.out (fun _ hk => ⟨⟨hk.1.1.1.1.1.1.1, ⟨hk.1.1.1.1.1.1.2, ⟨hk.1.1.1.1.1.2, ⟨hk.1.1.1.1.2, ⟨hk.1.1.1.2, ⟨hk.1.1.2, hk.1.2⟩⟩⟩⟩⟩⟩, hk.2⟩)) hg hat); have n4_ := Aside0.mk (Kd.R_after (ok := (fun k_ => some k_ ≠ (.slice Ao37 t621.length co37 : Value).ownBlock ∧ some k_ ≠ (.slice Ao31 t624.length co31 : Value).ownBlock ∧ some k_ ≠ (.slice Ao40 y637.length co40 : Value).ownBlock ∧ some k_ ≠ (.slice Ao42 t640.length co42 : Value).ownBlock ∧ some k_ ≠ (v644 : Value).ownBlock ∧ some k_ ≠ (.slice Ao51 t647.length co51 : Value).ownBlock ∧ some k_ ≠ (v652 : Value).ownBlock)) (by (with_reducible repeat (first | apply Kd.R_alloc | apply Kd.R_drewN | apply Kd.R_drew)); exact Kd.R_mono HO629.out (fun _ hk => ⟨⟨hk.1.1.1.1.1.1.1, ⟨hk.1.1.1.1.1.1.2, ⟨hk.1.1.1.1.1.2, ⟨hk.1.1.1.1.2, ⟨hk.1.1.1.2, ⟨hk.1.1.2, hk.1.2⟩⟩⟩⟩⟩⟩, hk.2⟩)) hg hat); have n5_ := Aside0.mk (Kd.R_after (ok := (fun k_ => some k_ ≠ (.slice Ao37 t621.length co37 : Value).ownBlock ∧ some k_ ≠ (.slice Ao31 t624.length co31 : Value).ownBlock ∧ some k_ ≠ (.slice Ao39 t627.length co39 : Value).ownBlock ∧ some k_ ≠ (.slice Ao42 t640.length co42 : Value).ownBlock ∧ some k_ ≠ (v644 : Value).ownBlock ∧ some k_ ≠ (.slice Ao51 t647.length co51 : Value).ownBlock ∧ some k_ ≠ (v652 : Value).ownBlock)) (by (with_reducible repeat (first | apply Kd.R_alloc | apply Kd.R_drewN | apply Kd.R_drew)); exact Kd.R_mono HO639.out (fun _ hk => ⟨⟨hk.1.1.1.1.1.1, ⟨hk.1.1.1.1.1.2.1, ⟨hk.1.1.1.1.1.2.2, ⟨hk.1.1.1.1.2, ⟨hk.1.1.1.2, ⟨hk.1.1.2, hk.1.2⟩⟩⟩⟩⟩⟩, hk.2⟩)) hg hat); have n6_ := Aside0.mk (Kd.R_after (ok := (fun k_ => some k_ ≠ (.slice Ao37 t621.length co37 : Value).ownBlock ∧ some k_ ≠ (.slice Ao31 t624.length co31 : Value).ownBlock ∧ some k_ ≠ (.slice Ao39 t627.length co39 : Value).ownBlock ∧ some k_ ≠ (.slice Ao40 y637.length co40 : Value).ownBlock ∧ some k_ ≠ (v644 : Value).ownBlock ∧ some k_ ≠ (.slice Ao51 t647.length co51 : Value).ownBlock ∧ some k_ ≠ (v652 : Value).ownBlock)) (by (with_reducible repeat (first | apply Kd.R_alloc | apply Kd.R_drewN | apply Kd.R_drew)); exact Kd.R_mono HO642.out (fun _ hk => ⟨⟨hk.1.1.1.1.1.1.1.2, ⟨hk.1.1.1.1.1.1.2, ⟨hk.1.1.1.1.1.2, ⟨hk.1.1.1.1.2, ⟨hk.1.1.1.2, ⟨hk.1.1.2, hk.1.2⟩⟩⟩⟩⟩⟩, hk.2⟩)) hg hat); have n7_ := Aside0.mk (Kd.R_after (ok := (fun k_ => some k_ ≠ (.slice Ao37 t621.length co37 : Value).ownBlock ∧ some k_ ≠ (.slice Ao31 t624.length co31 : Value).ownBlock ∧ some k_ ≠ (.slice Ao39 t627.length co39 : Value).ownBlock ∧ some k_ ≠ (.slice Ao40 y637.length co40 : Value).ownBlock ∧ some k_ ≠ (.slice Ao42 t640.length co42 : Value).ownBlock ∧ some k_ ≠ (.slice Ao51 t647.length co51 : Value).ownBlock ∧ some k_ ≠ (v652 : Value).ownBlock)) (by (with_reducible repeat (first | apply Kd.R_alloc | apply Kd.R_drewN | apply Kd.R_drew)); exact Kd.R_mono HO645.out (fun _ hk => ⟨⟨hk.1.1.1.1.1.1.1.2, ⟨hk.1.1.1.1.1.1.2, ⟨hk.1.1.1.1.1.2, ⟨hk.1.1.1.1.2, ⟨hk.1.1.1.2, ⟨hk.1.1.2, hk.1.2⟩⟩⟩⟩⟩⟩, hk.2⟩)) hg hat); have n8_ := Aside0.mk (Kd.R_after (ok := (fun k_ => some k_ ≠ (.slice Ao37 t621.length co37 : Value).ownBlock ∧ some k_ ≠ (.slice Ao31 t624.length co31 : Value).ownBlock ∧ some k_ ≠ (.slice Ao39 t627.length co39 : Value).ownBlock ∧ some k_ ≠ (.slice Ao40 y637.length co40 : Value).ownBlock ∧ some k_ ≠ (.slice Ao42 t640.length co42 : Value).ownBlock ∧ some k_ ≠ (v644 : Value).ownBlock ∧ some k_ ≠ (v652 : Value).ownBlock)) (by (with_reducible repeat (first | apply Kd.R_alloc | apply Kd.R_drewN | apply Kd.R_drew)); exact Kd.R_mono HO649.out (fun _ hk => ⟨⟨hk.1.1.1.1.1.1.1.2, ⟨hk.1.1.1.1.1.1.2, ⟨hk.1.1.1.1.1.2, ⟨hk.1.1.1.1.2, ⟨hk.1.1.1.2, ⟨hk.1.1.2, hk.1.2⟩⟩⟩⟩⟩⟩, hk.2⟩)) hg hat); have n9_ := Aside0.mk (Kd.R_after (ok := (fun k_ => some k_ ≠ (.slice Ao37 t621.length co37 : Value).ownBlock ∧ some k_ ≠ (.slice Ao31 t624.length co31 : Value).ownBlock ∧ some k_ ≠ (.slice Ao39 t627.length co39 : Value).ownBlock ∧ some k_ ≠ (.slice Ao40 y637.length co40 : Value).ownBlock ∧ some k_ ≠ (.slice Ao42 t640.length co42 : Value).ownBlock ∧ some k_ ≠ (v644 : Value).ownBlock ∧ some k_ ≠ (.slice Ao51 t647.length co51 : Value).ownBlock)) (by (with_reducible repeat (first | apply Kd.R_alloc | apply Kd.R_drewN | apply Kd.R_drew)); exact Kd.R_mono HO653.out (fun _ hk => ⟨⟨hk.1.1.1.1.1.1.1.2, ⟨hk.1.1.1.1.1.1.2, ⟨hk.1.1.1.1.1.2, ⟨hk.1.1.1.1.2, ⟨hk.1.1.1.2, ⟨hk.1.1.2, hk.1.2⟩⟩⟩⟩⟩⟩, hk.2⟩)) hg hat); have n10_ := Aside0.mk (hb); have n11_ := Aside0.mk (ho); clear BK613; clear BK620; clear HO623; clear HO626; clear HO629; clear HO639; clear HO642; clear HO645; clear HO649; clear HO653; clear HB; clear HO661; have BK613 := n0_; have BK620 := n1_; have HO623 := n2_; have HO626 := n3_; have HO629 := n4_; have HO639 := n5_; have HO642 := n6_; have HO645 := n7_; have HO649 := n8_; have HO653 := n9_; have HB := n10_; have HO664 := n11_; clear n0_ n1_ n2_ n3_ n4_ n5_ n6_ n7_ n8_ n9_ n10_ n11_; clear ho hb hg hat; obtain ⟨Ao53, co53, eo53⟩ := Kd.R_slice HO653.out; subst eo53) | ((with_reducible refine gate_builtin (b := .append) (xs := #[.tmp 83, .tmp 84]) rfl ?_); (try (refine gate_guard (by rfl) ?_; dsimp only)); at_builtin; refine app_rows2p 35 65 k65 (w0 := w) w.heap.size rfl (.tmp 83) (.tmp 84) 34 65 (.agg #[(.int .i64 0), (.int .i64 0), (.int .i64 0)]) 24 rfl Tryd.underlying35 Tryd.underlying34 info65 rfl (by decide) (by omega) v663 y662 t651 _ _ _ (fun k_ => some k_ ≠ (.slice Ao37 t621.length co37 : Value).ownBlock ∧ some k_ ≠ (.slice Ao31 t624.length co31 : Value).ownBlock ∧ some k_ ≠ (.slice Ao39 t627.length co39 : Value).ownBlock ∧ some k_ ≠ (.slice Ao40 y637.length co40 : Value).ownBlock ∧ some k_ ≠ (.slice Ao42 t640.length co42 : Value).ownBlock ∧ some k_ ≠ (v644 : Value).ownBlock ∧ some k_ ≠ (.slice Ao51 t647.length co51 : Value).ownBlock ∧ some k_ ≠ (.slice Ao53 t651.length co53 : Value).ownBlock) (fun _ => False) rfl rfl ?aO ?aR (fun _ _ h => h) (fun _ h => h.elim) ?aF ?aB ?aS ?aL ?_; (case aR => repeat (first | exact (Kd.R_reads' HO653.out).2.2 | (with_reducible refine Kd.C_alloc ?_ _) | (with_reducible refine Kd.C_drewN ?_ _) | (with_reducible refine Kd.C_drew ?_))); (case aB => exact (by repeat (first | (with_reducible first | exact HB.out | apply ba_ | apply bn_ | apply bd_ | refine below_set ?_ GE613.out | refine below_set ?_ GE620.out) | exact HB.out))); (case aF => exact (fun k_ hk => ⟨Kd.fresh' (Kd.R_lt (by (with_reducible repeat (first | apply Kd.R_alloc | apply Kd.R_drewN | apply Kd.R_drew)); exact HO623.out)) k_ hk, Kd.fresh' (Kd.R_lt (by (with_reducible repeat (first | apply Kd.R_alloc | apply Kd.R_drewN | apply Kd.R_drew)); exact HO626.out)) k_ hk, Kd.fresh' (Kd.R_lt (by (with_reducible repeat (first | apply Kd.R_alloc | apply Kd.R_drewN | apply Kd.R_drew)); exact HO629.out)) k_ hk, Kd.fresh' (Kd.R_lt (by (with_reducible repeat (first | apply Kd.R_alloc | apply Kd.R_drewN | apply Kd.R_drew)); exact HO639.out)) k_ hk, Kd.fresh' (Kd.R_lt (by (with_reducible repeat (first | apply Kd.R_alloc | apply Kd.R_drewN | apply Kd.R_drew)); exact HO642.out)) k_ hk, Kd.fresh' (Kd.R_lt (by (with_reducible repeat (first | apply Kd.R_alloc | apply Kd.R_drewN | apply Kd.R_drew)); exact HO645.out)) k_ hk, Kd.fresh' (Kd.R_lt (by (with_reducible repeat (first | apply Kd.R_alloc | apply Kd.R_drewN | apply Kd.R_drew)); exact HO649.out)) k_ hk, Kd.fresh' (Kd.R_lt (by (with_reducible repeat (first | apply Kd.R_alloc | apply Kd.R_drewN | apply Kd.R_drew)); exact HO653.out)) k_ hk⟩)); (case aO => exact (by (with_reducible repeat (first | apply Kd.R_alloc | apply Kd.R_drewN | apply Kd.R_drew)); exact HO664.out)); (case aS => exact (below_size (by repeat (first | (with_reducible first | exact HB.out | apply ba_ | apply bn_ | apply bd_ | refine below_set ?_ GE613.out | refine below_set ?_ GE620.out) | exact HB.out)))); (case aL => have := LMc18.out; omega); intro v666 w52 ho hb hg hat; rw [← Ny665.out] at ho; have n0_ := Aside0.mk (blk_grown (g := gb613) (o := .cells #[.int .i64 a0_0, .int .u64 a0_1, .int .u64 a0_2, .int .u64 a0_3, .int .u64 a0_4] 25 (0, 0)) (by (with_reducible repeat (first | apply bN_ | apply bD_ | apply bA_)); exact BK613.out) hg (Kd.R_ne HO664.out BK613.out (by decide))); have n1_ := Aside0.mk (blk_grown (g := gb620) (o := .cells #[.int .i64 t615, .int .u64 t616, .int .u64 t617, .int .u64 t618, .int .u64 t619] 29 (0, 0)) (by (with_reducible repeat (first | apply bN_ | apply bD_ | apply bA_)); exact BK620.out) hg (Kd.R_ne HO664.out BK620.out (by decide))); have n2_ := Aside0.mk (Kd.R_after (ok := (fun k_ => some k_ ≠ (.slice Ao31 t624.length co31 : Value).ownBlock ∧ some k_ ≠ (.slice Ao39 t627.length co39 : Value).ownBlock ∧ some k_ ≠ (.slice Ao40 y637.length co40 : Value).ownBlock ∧ some k_ ≠ (.slice Ao42 t640.length co42 : Value).ownBlock ∧ some k_ ≠ (v644 : Value).ownBlock ∧ some k_ ≠ (.slice Ao51 t647.length co51 : Value).ownBlock ∧ some k_ ≠ (.slice Ao53 t651.length co53 : Value).ownBlock)) (by (with_reducible repeat (first | apply Kd.R_alloc | apply Kd.R_drewN | apply Kd.R_drew)); exact HO623.out) hg hat); have n3_ := Aside0.mk (Kd.R_after (ok := (fun k_ => some k_ ≠ (.slice Ao37 t621.length co37 : Value).ownBlock ∧ some k_ ≠ (.slice Ao39 t627.length co39 : Value).ownBlock ∧ some k_ ≠ (.slice Ao40 y637.length co40 : Value).ownBlock ∧ some k_ ≠ (.slice Ao42 t640.length co42 : Value).ownBlock ∧ some k_ ≠ (v644 : Value).ownBlock ∧ some k_ ≠ (.slice Ao51 t647.length co51 : Value).ownBlock ∧ some k_ ≠ (.slice Ao53 t651.length co53 : Value).ownBlock)) (by (with_reducible repeat (first | apply Kd.R_alloc | apply Kd.R_drewN | apply Kd.R_drew)); exact HO626.out) hg hat); have n4_ := Aside0.mk (Kd.R_after (ok := (fun k_ => some k_ ≠ (.slice Ao37 t621.length co37 : Value).ownBlock ∧ some k_ ≠ (.slice Ao31 t624.length co31 : Value).ownBlock ∧ some k_ ≠ (.slice Ao40 y637.length co40 : Value).ownBlock ∧ some k_ ≠ (.slice Ao42 t640.length co42 : Value).ownBlock ∧ some k_ ≠ (v644 : Value).ownBlock ∧ some k_ ≠ (.slice Ao51 t647.length co51 : Value).ownBlock ∧ some k_ ≠ (.slice Ao53 t651.length co53 : Value).ownBlock)) (by (with_reducible repeat (first | apply Kd.R_alloc | apply Kd.R_drewN | apply Kd.R_drew)); exact HO629.out) hg hat); have n5_ := Aside0.mk (Kd.R_after (ok := (fun k_ => some k_ ≠ (.slice Ao37 t621.length co37 : Value).ownBlock ∧ some k_ ≠ (.slice Ao31 t624.length co31 : Value).ownBlock ∧ some k_ ≠ (.slice Ao39 t627.length co39 : Value).ownBlock ∧ some k_ ≠ (.slice Ao42 t640.length co42 : Value).ownBlock ∧ some k_ ≠ (v644 : Value).ownBlock ∧ some k_ ≠ (.slice Ao51 t647.length co51 : Value).ownBlock ∧ some k_ ≠ (.slice Ao53 t651.length co53 : Value).ownBlock)) (by (with_reducible repeat (first | apply Kd.R_alloc | apply Kd.R_drewN | apply Kd.R_drew)); exact HO639.out) hg hat); have n6_ := Aside0.mk (Kd.R_after (ok := (fun k_ => some k_ ≠ (.slice Ao37 t621.length co37 : Value).ownBlock ∧ some k_ ≠ (.slice Ao31 t624.length co31 : Value).ownBlock ∧ some k_ ≠ (.slice Ao39 t627.length co39 : Value).ownBlock ∧ some k_ ≠ (.slice Ao40 y637.length co40 : Value).ownBlock ∧ some k_ ≠ (v644 : Value).ownBlock ∧ some k_ ≠ (.slice Ao51 t647.length co51 : Value).ownBlock ∧ some k_ ≠ (.slice Ao53 t651.length co53 : Value).ownBlock)) (by (with_reducible repeat (first | apply Kd.R_alloc | apply Kd.R_drewN | apply Kd.R_drew)); exact HO642.out) hg hat); have n7_ := Aside0.mk (Kd.R_after (ok := (fun k_ => some k_ ≠ (.slice Ao37 t621.length co37 : Value).ownBlock ∧ some k_ ≠ (.slice Ao31 t624.length co31 : Value).ownBlock ∧ some k_ ≠ (.slice Ao39 t627.length co39 : Value).ownBlock ∧ some k_ ≠ (.slice Ao40 y637.length co40 : Value).ownBlock ∧ some k_ ≠ (.slice Ao42 t640.length co42 : Value).ownBlock ∧ some k_ ≠ (.slice Ao51 t647.length co51 : Value).ownBlock ∧ some k_ ≠ (.slice Ao53 t651.length co53 : Value).ownBlock)) (by (with_reducible repeat (first | apply Kd.R_alloc | apply Kd.R_drewN | apply Kd.R_drew)); exact HO645.out) hg hat); have n8_ := Aside0.mk (Kd.R_after (ok := (fun k_ => some k_ ≠ (.slice Ao37 t621.length co37 : Value).ownBlock ∧ some k_ ≠ (.slice Ao31 t624.length co31 : Value).ownBlock ∧ some k_ ≠ (.slice Ao39 t627.length co39 : Value).ownBlock ∧ some k_ ≠ (.slice Ao40 y637.length co40 : Value).ownBlock ∧ some k_ ≠ (.slice Ao42 t640.length co42 : Value).ownBlock ∧ some k_ ≠ (v644 : Value).ownBlock ∧ some k_ ≠ (.slice Ao53 t651.length co53 : Value).ownBlock)) (by (with_reducible repeat (first | apply Kd.R_alloc | apply Kd.R_drewN | apply Kd.R_drew)); exact HO649.out) hg hat); have n9_ := Aside0.mk (Kd.R_after (ok := (fun k_ => some k_ ≠ (.slice Ao37 t621.length co37 : Value).ownBlock ∧ some k_ ≠ (.slice Ao31 t624.length co31 : Value).ownBlock ∧ some k_ ≠ (.slice Ao39 t627.length co39 : Value).ownBlock ∧ some k_ ≠ (.slice Ao40 y637.length co40 : Value).ownBlock ∧ some k_ ≠ (.slice Ao42 t640.length co42 : Value).ownBlock ∧ some k_ ≠ (v644 : Value).ownBlock ∧ some k_ ≠ (.slice Ao51 t647.length co51 : Value).ownBlock)) (by (with_reducible repeat (first | apply Kd.R_alloc | apply Kd.R_drewN | apply Kd.R_drew)); exact HO653.out) hg hat); have n10_ := Aside0.mk (hb); have n11_ := Aside0.mk (ho); clear BK613; clear BK620; clear HO623; clear HO626; clear HO629; clear HO639; clear HO642; clear HO645; clear HO649; clear HO653; clear HB; clear HO664; have BK613 := n0_; have BK620 := n1_; have HO623 := n2_; have HO626 := n3_; have HO629 := n4_; have HO639 := n5_; have HO642 := n6_; have HO645 := n7_; have HO649 := n8_; have HO653 := n9_; have HB := n10_; have HO667 := n11_; clear n0_ n1_ n2_ n3_ n4_ n5_ n6_ n7_ n8_ n9_ n10_ n11_; clear ho hb hg hat; obtain ⟨Ao54, co54, eo54⟩ := Kd.R_slice HO667.out; subst eo54) | (go_at_call 37; (with_reducible refine (XOf.calls _ _ y665 t668 _ ?side1 ?side2 A19.out).mono ?_); (case side1 => repeat (first | exact (Kd.R_reads' HO667.out).2.2 | (with_reducible refine Kd.C_alloc ?_ _) | (with_reducible refine Kd.C_drewN ?_ _) | (with_reducible refine Kd.C_drew ?_))); (case side2 => exact (Kd.R_reads' HO667.out).2.1); rintro e w55 ⟨v669, rfl, ho0, hb⟩; have n0_ := Aside0.mk (Kd.R_elder' (by (with_reducible repeat (first | apply Kd.R_alloc | apply Kd.R_drewN | apply Kd.R_drew)); exact HO623.out) (Kd.R_base ho0) hb); have n1_ := Aside0.mk (Kd.R_elder' (by (with_reducible repeat (first | apply Kd.R_alloc | apply Kd.R_drewN | apply Kd.R_drew)); exact HO626.out) (Kd.R_base ho0) hb); have n2_ := Aside0.mk (Kd.R_elder' (by (with_reducible repeat (first | apply Kd.R_alloc | apply Kd.R_drewN | apply Kd.R_drew)); exact HO629.out) (Kd.R_base ho0) hb); have n3_ := Aside0.mk (Kd.R_elder' (by (with_reducible repeat (first | apply Kd.R_alloc | apply Kd.R_drewN | apply Kd.R_drew)); exact HO639.out) (Kd.R_base ho0) hb); have n4_ := Aside0.mk (Kd.R_elder' (by (with_reducible repeat (first | apply Kd.R_alloc | apply Kd.R_drewN | apply Kd.R_drew)); exact HO642.out) (Kd.R_base ho0) hb); have n5_ := Aside0.mk (Kd.R_elder' (by (with_reducible repeat (first | apply Kd.R_alloc | apply Kd.R_drewN | apply Kd.R_drew)); exact HO645.out) (Kd.R_base ho0) hb); have n6_ := Aside0.mk (Kd.R_elder' (by (with_reducible repeat (first | apply Kd.R_alloc | apply Kd.R_drewN | apply Kd.R_drew)); exact HO649.out) (Kd.R_base ho0) hb); have n7_ := Aside0.mk (Kd.R_elder' (by (with_reducible repeat (first | apply Kd.R_alloc | apply Kd.R_drewN | apply Kd.R_drew)); exact HO653.out) (Kd.R_base ho0) hb); have n8_ := Aside0.mk (Kd.R_elder' (by (with_reducible repeat (first | apply Kd.R_alloc | apply Kd.R_drewN | apply Kd.R_drew)); exact HO667.out) (Kd.R_base ho0) hb); have n9_ := Aside0.mk (Kd.R_lower (Kd.R_new' (Kd.R_new' (Kd.R_new' (Kd.R_new' (Kd.R_new' (Kd.R_new' (Kd.R_new' (Kd.R_new' (Kd.R_new' ho0 (Kd.R_lt (by (with_reducible repeat (first | apply Kd.R_alloc | apply Kd.R_drewN | apply Kd.R_drew)); exact HO623.out))) (Kd.R_lt (by (with_reducible repeat (first | apply Kd.R_alloc | apply Kd.R_drewN | apply Kd.R_drew)); exact HO626.out))) (Kd.R_lt (by (with_reducible repeat (first | apply Kd.R_alloc | apply Kd.R_drewN | apply Kd.R_drew)); exact HO629.out))) (Kd.R_lt (by (with_reducible repeat (first | apply Kd.R_alloc | apply Kd.R_drewN | apply Kd.R_drew)); exact HO639.out))) (Kd.R_lt (by (with_reducible repeat (first | apply Kd.R_alloc | apply Kd.R_drewN | apply Kd.R_drew)); exact HO642.out))) (Kd.R_lt (by (with_reducible repeat (first | apply Kd.R_alloc | apply Kd.R_drewN | apply Kd.R_drew)); exact HO645.out))) (Kd.R_lt (by (with_reducible repeat (first | apply Kd.R_alloc | apply Kd.R_drewN | apply Kd.R_drew)); exact HO649.out))) (Kd.R_lt (by (with_reducible repeat (first | apply Kd.R_alloc | apply Kd.R_drewN | apply Kd.R_drew)); exact HO653.out))) (Kd.R_lt (by (with_reducible repeat (first | apply Kd.R_alloc | apply Kd.R_drewN | apply Kd.R_drew)); exact HO667.out))) (below_size (by repeat (first | (with_reducible first | exact HB.out | apply ba_ | apply bn_ | apply bd_ | refine below_set ?_ GE613.out | refine below_set ?_ GE620.out) | exact HB.out)))); have n10_ := Aside0.mk (blk_below (g := gb613) (o := .cells #[.int .i64 a0_0, .int .u64 a0_1, .int .u64 a0_2, .int .u64 a0_3, .int .u64 a0_4] 25 (0, 0)) (by (with_reducible repeat (first | apply bN_ | apply bD_ | apply bA_)); exact BK613.out) hb); have n11_ := Aside0.mk (blk_below (g := gb620) (o := .cells #[.int .i64 t615, .int .u64 t616, .int .u64 t617, .int .u64 t618, .int .u64 t619] 29 (0, 0)) (by (with_reducible repeat (first | apply bN_ | apply bD_ | apply bA_)); exact BK620.out) hb); have n12_ := Aside0.mk (below_step (by repeat (first | (with_reducible first | exact HB.out | apply ba_ | apply bn_ | apply bd_ | refine below_set ?_ GE613.out | refine below_set ?_ GE620.out) | exact HB.out)) hb); clear HO623; clear HO626; clear HO629; clear HO639; clear HO642; clear HO645; clear HO649; clear HO653; clear HO667; clear BK613; clear BK620; clear HB; have HO623 := n0_; have HO626 := n1_; have HO629 := n2_; have HO639 := n3_; have HO642 := n4_; have HO645 := n5_; have HO649 := n6_; have HO653 := n7_; have HO667 := n8_; have HO670 := n9_; have BK613 := n10_; have BK620 := n11_; have HB := n12_; clear n0_ n1_ n2_ n3_ n4_ n5_ n6_ n7_ n8_ n9_ n10_ n11_ n12_; (try clear hb); (try clear hb2); (try clear hk); (try clear hi); (try clear ho0); obtain ⟨Ao56, co56, eo56⟩ := Kd.R_slice HO645.out; subst eo56; obtain ⟨Ao57, co57, eo57⟩ := Kd.R_slice HO670.out; subst eo57) | (go_at_call 38; (with_reducible refine (set_Set_Same.calls k _ _ t643 _ _ t668 t671 _ ?side1 ?side2 ?side3 ?side4 A20.out).mono ?_); (case side1 => repeat (first | exact (Kd.R_reads' HO645.out).2.2 | (with_reducible refine Kd.C_alloc ?_ _) | (with_reducible refine Kd.C_drewN ?_ _) | (with_reducible refine Kd.C_drew ?_))); (case side2 => exact (Kd.R_reads' HO645.out).2.1); (case side3 => repeat (first | exact (Kd.R_reads' HO670.out).2.2 | (with_reducible refine Kd.C_alloc ?_ _) | (with_reducible refine Kd.C_drewN ?_ _) | (with_reducible refine Kd.C_drew ?_))); (case side4 => exact (Kd.R_reads' HO670.out).2.1); rintro e w' ⟨rfl, ⟨nd, rfl⟩⟩))
          go_ret
          exact ⟨by first | rfl | (simp [errW_none, errW_some] <;> rfl) | (simp [*, errW_none, errW_some] <;> rfl), by repeat (first | (with_reducible first | exact HB.out | apply ba_ | apply bn_ | apply bd_ | refine below_set ?_ GE613.out | refine below_set ?_ GE620.out) | exact HB.out)⟩
         ·
          rw [if_neg c18] at H
          exact absurd H (by simp)
        ·
         rw [if_neg c17] at H
         exact absurd H (by simp)
       ·
        have H1 : (some false) = some r := by rw [if_neg (show ¬ (some q658).isNone = true by simp)] at H; exact H
        clear H
        have H := H1
        clear H1
        try simp only [errW_none, errW_some]
        exact absurd ((Option.some.inj H).trans Hr_.out) (by decide)
      ·
       have H1 : (some false) = some r := by rw [if_neg (show ¬ (some q657).isNone = true by simp)] at H; exact H
       clear H
       have H := H1
       clear H1
       try simp only [errW_none, errW_some]
       exact absurd ((Option.some.inj H).trans Hr_.out) (by decide)
     ·
      have H1 : (some false) = some r := by rw [if_neg (show ¬ (some q656).isNone = true by simp)] at H; exact H
      clear H
      have H := H1
      clear H1
      try simp only [errW_none, errW_some]
      exact absurd ((Option.some.inj H).trans Hr_.out) (by decide)
    ·
     have H1 : (some false) = some r := by rw [if_neg (show ¬ (some q655).isNone = true by simp)] at H; exact H
     clear H
     have H := H1
     clear H1
     try simp only [errW_none, errW_some]
     exact absurd ((Option.some.inj H).trans Hr_.out) (by decide)
   ·
    rw [if_neg c12] at H
    exact absurd H (by simp)
  ·
   rw [if_neg c11] at H
   exact absurd H (by simp)
 ·
  replace c6 := Bool.eq_false_iff.mpr c6
  subst c6
  have H1 : (some false) = some r := by rw [if_neg (show ¬ (false = true) by decide)] at H; exact H
  clear H
  have H := H1
  clear H1
  exact absurd ((Option.some.inj H).trans Hr_.out) (by decide)
end Go.Proofs.YtaeenefdbahfoaaDoor.H
