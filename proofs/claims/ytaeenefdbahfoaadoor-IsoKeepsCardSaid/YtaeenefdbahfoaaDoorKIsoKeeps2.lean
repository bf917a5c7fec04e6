/- Parts of the proof (IsoKeeps), merged out of our texts by wip/tools/pack.py: As, CodeOf, Laid2, OnP, XOn, Rot, XOpOn, XSix, HEq, HSmall, XBrought, XNext, XTCheck. -/
import Derived.Test.YtaeenefdbahfoaaDoorKIsoKeeps1
import Derived.WalkKit
import Derived.LaidEql
import Derived.Stop.Asserts
import Derived.RowKitTokens
import Derived.BigRegion
import Derived.Deep.RegionHeld3
namespace Go.Proofs.YtaeenefdbahfoaaDoor
set_option linter.unusedSimpArgs false
set_option linter.unusedVariables false
open Go.RowKit Go.Extern.Stop Go.Stop Go.Extern
/-- errors.As(nil, target). -/
theorem as_nil (t : Value) (w : World) :
    Calls Tryd.prog 82 #[.nilIface, t] w fun e w' => e = .returned (.bool false) ∧ w' = w := by
  go_enter Tryd.func82, Tryd.ntmps82
  go_wp2
  go_ret
  exact ⟨rfl, rfl⟩
theorem asValueP (t : Addr) (w : World) : (ReflectliteValue.unpack (.iface 134 (.pointer (some t)))).run Tryd.prog w
    = .ok (.agg #[.pointer (some ⟨2, 134, none⟩), .pointer (some ⟨w.heap.size, 0, none⟩), .int .u64 150]) (w.alloc (.cells #[.pointer (some t)] 134)) := by kernel_rfl
theorem asTypeP (a : Addr) (w : World) : (ReflectliteValue.methodAny (ReflectliteValue.valueError "reflectlite.Value.Type" 0) (fun t _ _ _ => ReflectliteType.toType t) #[.agg #[.pointer (some ⟨2, 134, none⟩), .pointer (some a), .int .u64 150]]).run Tryd.prog w
    = .ok (.iface 189 (.agg #[.pointer (some ⟨2, 134, none⟩)])) w := by kernel_rfl
theorem asMKind (h : Value) (w : World) : (Go.method 343 189 (.agg #[h]) "Kind").run Tryd.prog w = .ok (149, h) w := by kernel_rfl
theorem asKindP (w : World) : ((ReflectliteType.abiMethod fun t => (fun a : Nat => Value.int IntKind.u8 (a : Int)) <$> Rtype.kind t) #[.pointer (some ⟨2, 134, none⟩)]).run Tryd.prog w = .ok (.int .u8 22) w := by kernel_rfl
theorem asKindE (w : World) : ((ReflectliteType.abiMethod fun t => (fun a : Nat => Value.int IntKind.u8 (a : Int)) <$> Rtype.kind t) #[.pointer (some ⟨2, 87, none⟩)]).run Tryd.prog w = .ok (.int .u8 2) w := by kernel_rfl
theorem rlm (z : Sem Value) (f : TypeId → Addr → Nat → Nat → Sem Value) (v : Value) :
    ReflectliteValue.method z f #[v] = (do match ← ReflectliteValue.parts v with | none => z | some (t, a, fl) => f t a fl (fl % 32)) := rfl
theorem asPartsP (a : Addr) (w : World) : (ReflectliteValue.parts (.agg #[.pointer (some ⟨2, 134, none⟩), .pointer (some a), .int .u64 150])).run Tryd.prog w = .ok (some (134, a, 150)) w := by kernel_rfl
/-- (Value).IsNil at the Value of a **p.E that is not nil. -/
theorem asIsNilP (a p : Addr) (W : World) (ha : W.cell? a = some (.pointer (some p))) :
    (ReflectliteValue.method (ReflectliteValue.valueError "reflectlite.Value.IsNil" 0) ReflectliteValue.isNil #[.agg #[.pointer (some ⟨2, 134, none⟩), .pointer (some a), .int .u64 150]]).run Tryd.prog W = .ok (.bool false) W := by
  rw [rlm]
  simp only [Sem.run_bind, asPartsP, Result.andThen]
  simp [ReflectliteValue.isNil, loadVar, isAgg, underlying, Tryd.underlying134, ha, Result.andThen]
theorem asMElem (h : Value) (w : World) : (Go.method 343 189 (.agg #[h]) "Elem").run Tryd.prog w = .ok (162, .agg #[h]) w := by kernel_rfl
theorem asMImpl (h : Value) (w : World) : (Go.method 343 189 (.agg #[h]) "Implements").run Tryd.prog w = .ok (163, .agg #[h]) w := by kernel_rfl
theorem asMAssign (h : Value) (w : World) : (Go.method 343 189 (.agg #[h]) "AssignableTo").run Tryd.prog w = .ok (160, .agg #[h]) w := by kernel_rfl
theorem asElemP (w : World) : (ReflectliteType.method ReflectliteType.elem #[.agg #[.pointer (some ⟨2, 134, none⟩)]]).run Tryd.prog w = .ok (.iface 189 (.agg #[.pointer (some ⟨2, 87, none⟩)])) w := by kernel_rfl
theorem asImplE (w : World) : (ReflectliteType.relation "Implements" ReflectliteType.implements_ #[.agg #[.pointer (some ⟨2, 87, none⟩)], .iface 189 (.agg #[.pointer (some ⟨2, 39, none⟩)])]).run Tryd.prog w = .ok (.bool true) w := by kernel_rfl
theorem asTypeOfE (v : Value) (w : World) : (ReflectliteType.typeOf #[.iface 87 v]).run Tryd.prog w = .ok (.iface 189 (.agg #[.pointer (some ⟨2, 87, none⟩)])) w := by kernel_rfl
theorem asAssignE (w : World) : (ReflectliteType.relation "AssignableTo" ReflectliteType.assignableTo #[.agg #[.pointer (some ⟨2, 87, none⟩)], .iface 189 (.agg #[.pointer (some ⟨2, 87, none⟩)])]).run Tryd.prog w = .ok (.bool true) w := by kernel_rfl
theorem asValueE (e : Int) (w : World) : (ReflectliteValue.unpack (.iface 87 (.int .i64 e))).run Tryd.prog w
    = .ok (.agg #[.pointer (some ⟨2, 87, none⟩), .pointer (some ⟨w.heap.size, 0, none⟩), .int .u64 130]) (w.alloc (.cells #[.int .i64 e] 87)) := by kernel_rfl
theorem asElemOfP (w : World) : (Rtype.elem? 134).run Tryd.prog w = .ok (some 87) w := by kernel_rfl
theorem asMkE (p : Addr) (w : World) : (ReflectliteValue.mk 87 p ReflectliteValue.flagAddr).run Tryd.prog w = .ok (.agg #[.pointer (some ⟨2, 87, none⟩), .pointer (some p), .int .u64 386]) w := by kernel_rfl
/-- (Value).Elem at the Value of a **p.E that is not nil: the Value of the *p.E variable that it points to, addressable. -/
theorem asElemV (a p : Addr) (W : World) (ha : W.cell? a = some (.pointer (some p))) :
    (ReflectliteValue.method (ReflectliteValue.valueError "reflectlite.Value.Elem" 0) ReflectliteValue.elem #[.agg #[.pointer (some ⟨2, 134, none⟩), .pointer (some a), .int .u64 150]]).run Tryd.prog W
      = .ok (.agg #[.pointer (some ⟨2, 87, none⟩), .pointer (some p), .int .u64 386]) W := by
  rw [rlm]
  simp only [Sem.run_bind, asPartsP, Result.andThen]
  simp [ReflectliteValue.elem, loadVar, isAgg, underlying, Tryd.underlying134, ha, Result.andThen, asElemOfP, asMkE]
theorem rls (v x : Value) : ReflectliteValue.set #[v, x] = (do
    let (some (dst, a, fl), some (src, b, _)) := (← ReflectliteValue.parts v, ← ReflectliteValue.parts x)
      | unsupported (.noEntry "extern/(internal/reflectlite.Value).Set.zeroValue")
    if fl / ReflectliteValue.flagAddr % 2 == 0 then unsupported (.noEntry "extern/(internal/reflectlite.Value).Set.unaddressable")
    let val ← loadVar src b
    if ← Rtype.directlyAssignable dst src then storeVar dst a val
    else if ← Rtype.implements dst src then
      if (← Rtype.kind src) == 20 then
        match val with
        | .nilIface => unsupported (.noEntry "extern/reflectlite: a nil value of one interface type handed on as a value of another")
        | _ => storeVar dst a val
      else storeVar dst a (.iface src val)
    else panicString ("reflectlite.Set: value of type " ++ (← Rtype.spelt src) ++ " is not assignable to type " ++ (← Rtype.spelt dst))
    pure (.tuple #[])) := rfl
theorem asPartsEa (a : Addr) (w : World) : (ReflectliteValue.parts (.agg #[.pointer (some ⟨2, 87, none⟩), .pointer (some a), .int .u64 386])).run Tryd.prog w = .ok (some (87, a, 386)) w := by kernel_rfl
theorem asPartsE (a : Addr) (w : World) : (ReflectliteValue.parts (.agg #[.pointer (some ⟨2, 87, none⟩), .pointer (some a), .int .u64 130])).run Tryd.prog w = .ok (some (87, a, 130)) w := by kernel_rfl
theorem asDirectE (w : World) : (Rtype.directlyAssignable 87 87).run Tryd.prog w = .ok true w := by kernel_rfl
/-- (Value).Set: the *p.E variable at 'ta' gets what the Value's own variable 'b' holds. -/
theorem asSetE (ta b : Addr) (e : Int) (old : Value) (W : World) (hb : W.cell? b = some (.int .i64 e)) (ht : W.cell? ta = some old) (hf : W.frozen? ta = false) :
    (ReflectliteValue.set #[.agg #[.pointer (some ⟨2, 87, none⟩), .pointer (some ta), .int .u64 386], .agg #[.pointer (some ⟨2, 87, none⟩), .pointer (some b), .int .u64 130]]).run Tryd.prog W
      = .ok (.tuple #[]) (W.setCell ta (.int .i64 e)) := by
  rw [rls]
  simp only [Sem.run_bind, asPartsEa, asPartsE, Result.andThen]
  simp [ReflectliteValue.flagAddr, loadVar, isAgg, underlying, Tryd.underlying87, hb, Result.andThen, asDirectE, storeVar, Value.cells, storeCells, Addr.add]
  rw [run_store Tryd.prog W ta _ _ (by rfl)]
  simp [ht, hf]
set_option maxRecDepth 100000 in
set_option maxHeartbeats 4000000 in
theorem as_hit (e : Int) (t : Addr) (old : Value) (w : World) (hg : w.cell? ⟨1, 0, none⟩ = some (.iface 189 (.agg #[.pointer (some ⟨2, 39, none⟩)]))) (ht0 : w.cell? t = some old) (hf0 : w.frozen? t = false) :
    Calls Tryd.prog 82 #[.iface 87 (.int .i64 e), .iface 134 (.pointer (some t))] w fun ev w' => ev = .returned (.bool true) ∧ w' = ((((w.alloc (.cells #[.pointer (some t)] 134)).alloc (.cells #[.pointer (some ⟨2, 134, none⟩), .pointer (some ⟨w.heap.size, 0, none⟩), .int .u64 150] 164)).alloc (.cells #[.pointer (some ⟨2, 134, none⟩), .pointer (some ⟨w.heap.size, 0, none⟩), .int .u64 150] 164)).alloc (.cells #[.int .i64 e] 87)).setCell t (.int .i64 e) := by
  have h6 := @run_callFunc_extern Tryd.prog 102 _ (fun args => ReflectliteValue.unpack (args.getD 0 (.tuple #[]))) Tryd.func102 (by kernel_rfl) (by kernel_rfl) (by kernel_rfl) (by kernel_rfl)
  have h7 := @run_callFunc_extern Tryd.prog 103 _ (ReflectliteValue.methodAny (ReflectliteValue.valueError "reflectlite.Value.Type" 0) (fun t _ _ _ => ReflectliteType.toType t)) Tryd.func103 (by kernel_rfl) (by kernel_rfl) (by kernel_rfl) (by kernel_rfl)
  have h8 := @run_callFunc_extern Tryd.prog 104 _ (ReflectliteValue.method (ReflectliteValue.valueError "reflectlite.Value.IsNil" 0) ReflectliteValue.isNil) Tryd.func104 (by kernel_rfl) (by kernel_rfl) (by kernel_rfl) (by kernel_rfl)
  have h27 := @run_callFunc_extern Tryd.prog 149 _ (ReflectliteType.abiMethod fun t => do pure (.int .u8 (← Rtype.kind t))) Tryd.func149 (by kernel_rfl) (by kernel_rfl) (by kernel_rfl) (by kernel_rfl)
  have h37 := @run_callFunc_extern Tryd.prog 162 _ (ReflectliteType.method ReflectliteType.elem) Tryd.func162 (by kernel_rfl) (by kernel_rfl) (by kernel_rfl) (by kernel_rfl)
  have h38 := @run_callFunc_extern Tryd.prog 163 _ (ReflectliteType.relation "Implements" ReflectliteType.implements_) Tryd.func163 (by kernel_rfl) (by kernel_rfl) (by kernel_rfl) (by kernel_rfl)
  have h10 := @run_callFunc_extern Tryd.prog 121 _ ReflectliteType.typeOf Tryd.func121 (by kernel_rfl) (by kernel_rfl) (by kernel_rfl) (by kernel_rfl)
  have h35 := @run_callFunc_extern Tryd.prog 160 _ (ReflectliteType.relation "AssignableTo" ReflectliteType.assignableTo) Tryd.func160 (by kernel_rfl) (by kernel_rfl) (by kernel_rfl) (by kernel_rfl)
  have h11 := @run_callFunc_extern Tryd.prog 122 _ (ReflectliteValue.method (ReflectliteValue.valueError "reflectlite.Value.Elem" 0) ReflectliteValue.elem) Tryd.func122 (by kernel_rfl) (by kernel_rfl) (by kernel_rfl) (by kernel_rfl)
  have h12 := @run_callFunc_extern Tryd.prog 123 _ ReflectliteValue.set Tryd.func123 (by kernel_rfl) (by kernel_rfl) (by kernel_rfl) (by kernel_rfl)
  have tO := asTypeOfE
  have mA := asMAssign
  have a25 := asAssignE
  have v25 := asValueE
  have f6 := asValueP
  have f7 := asTypeP
  have mK := asMKind
  have mE := asMElem
  have mI := asMImpl
  have k27 := asKindP
  have k25 := asKindE
  have e27 := asElemP
  have i25 := asImplE
  have n8 := asIsNilP ⟨w.heap.size, 0, none⟩ t ((w.alloc (.cells #[.pointer (some t)] 134)).alloc (.cells #[.pointer (some ⟨2, 134, none⟩), .pointer (some ⟨w.heap.size, 0, none⟩), .int .u64 150] 164)) (by simp)
  have hlt : 1 < w.heap.size := World.block_lt_of_cell? w ⟨1, 0, none⟩ hg
  have hg2 : ((w.alloc (.cells #[.pointer (some t)] 134)).alloc (.cells #[.pointer (some ⟨2, 134, none⟩), .pointer (some ⟨w.heap.size, 0, none⟩), .int .u64 150] 164)).cell? ⟨1, 0, none⟩ = some (.iface 189 (.agg #[.pointer (some ⟨2, 39, none⟩)])) := by
    rw [World.cell?_alloc_lt _ _ ⟨1, 0, none⟩ (by simp; omega), World.cell?_alloc_lt _ _ ⟨1, 0, none⟩ hlt]; exact hg
  have htl : t.block < w.heap.size := by
    rcases Nat.lt_or_ge t.block w.heap.size with h | h
    · exact h
    · simp [World.cell?, Array.getElem?_eq_none h] at ht0
  have el := asElemV ⟨w.heap.size, 0, none⟩ t (((w.alloc (.cells #[.pointer (some t)] 134)).alloc (.cells #[.pointer (some ⟨2, 134, none⟩), .pointer (some ⟨w.heap.size, 0, none⟩), .int .u64 150] 164)).alloc (.cells #[.pointer (some ⟨2, 134, none⟩), .pointer (some ⟨w.heap.size, 0, none⟩), .int .u64 150] 164)) (by rw [World.cell?_alloc_lt _ _ ⟨w.heap.size, 0, none⟩ (by simp; omega)]; simp)
  have st := asSetE t ⟨w.heap.size + 1 + 1 + 1, 0, none⟩ e old ((((w.alloc (.cells #[.pointer (some t)] 134)).alloc (.cells #[.pointer (some ⟨2, 134, none⟩), .pointer (some ⟨w.heap.size, 0, none⟩), .int .u64 150] 164)).alloc (.cells #[.pointer (some ⟨2, 134, none⟩), .pointer (some ⟨w.heap.size, 0, none⟩), .int .u64 150] 164)).alloc (.cells #[.int .i64 e] 87))
    (by rw [World.cell?_alloc_at _ _ _ _ (by simp)]; rfl)
    (by rw [World.cell?_alloc_lt _ _ t (by simp; omega), World.cell?_alloc_lt _ _ t (by simp; omega), World.cell?_alloc_lt _ _ t (by simp; omega), World.cell?_alloc_lt _ _ t htl]; exact ht0)
    (by rw [World.frozen?_alloc_old _ _ t (by simp; omega), World.frozen?_alloc_old _ _ t (by simp; omega), World.frozen?_alloc_old _ _ t (by simp; omega), World.frozen?_alloc_old _ _ t (Nat.ne_of_lt htl)]; exact hf0)
  go_enter Tryd.func82, Tryd.ntmps82
  go_wp2
  refine wp_loop_rounds 1 ?_
  rw [rounds_succ]
  go_wp2
  go_ret
  exact ⟨rfl, rfl⟩
end Go.Proofs.YtaeenefdbahfoaaDoor
namespace Go.Proofs.YtaeenefdbahfoaaDoor
set_option linter.unusedSimpArgs false
set_option linter.unusedVariables false
open Go.RowKit Go.Proofs.YtaeenefdbahfoaaDoorW.PrintWords Go.Proofs.YtaeenefdbahfoaaDoorW.PrintLast Go.Proofs.YtaeenefdbahfoaaDoorW.PrintMore
open H
open Go.Shelf Go.RowKit Go.Lib Go.Sort
/-- errors.errorType lies in its variable -/
def Et (w : World) : Prop := w.cell? ⟨1, 0, none⟩ = some (.iface 189 (.agg #[.pointer (some ⟨2, 39, none⟩)]))
theorem Et.below {w w' : World} (h : Et w) (hb : Below w.heap.size w w') : Et w' := pw_cell_below hb h
set_option maxRecDepth 100000 in
set_option maxHeartbeats 2000000 in
theorem codeOf_any (r : Option Int) (w : World) (hE : Et w) :
    Calls Tryd.prog 48 #[errW r] w fun e w' => e = .returned (.int .i64 (r.getD 0)) ∧ Below w.heap.size w w' := by
  cases r with
  | none =>
    rw [errW_none]
    go_enter Tryd.func48, Tryd.ntmps48
    go_wp2_with (go_at_call 82; refine (as_nil _ _).mono ?_; rintro e w' ⟨rfl, rfl⟩)
    go_ret
    exact ⟨rfl, (by with_reducible repeat (first | apply below_alloc | apply pw_below_drewN | apply below_drew | refine bset ?_ _ _ (by omega) _ | exact Below.refl _ _))⟩
  | some c =>
    rw [errW_some]
    have hlt : 1 < w.heap.size := World.block_lt_of_cell? w ⟨1, 0, none⟩ hE
    have hgA : (w.alloc (.cells #[.int .i64 0] 87)).cell? ⟨1, 0, none⟩ = some (.iface 189 (.agg #[.pointer (some ⟨2, 39, none⟩)])) := pw_cell_below (below_alloc (Below.refl _ w) _) hE
    have htA : (w.alloc (.cells #[.int .i64 0] 87)).cell? ⟨w.heap.size, 0, none⟩ = some (.int .i64 0) := by simp
    have hfA : (w.alloc (.cells #[.int .i64 0] 87)).frozen? ⟨w.heap.size, 0, none⟩ = false := by simp
    have HA := Aside0.mk (as_hit c ⟨w.heap.size, 0, none⟩ (.int .i64 0) _ hgA htA hfA)
    clear hgA htA hfA
    go_enter Tryd.func48, Tryd.ntmps48
    go_wp2_with (go_at_call 82; refine HA.out.mono ?_; rintro e w' ⟨rfl, rfl⟩)
    go_ret
    exact ⟨rfl, (by with_reducible repeat (first | apply below_alloc | apply pw_below_drewN | apply below_drew | refine bset ?_ _ _ (by omega) _ | exact Below.refl _ _))⟩
end Go.Proofs.YtaeenefdbahfoaaDoor
namespace Go.Proofs.YtaeenefdbahfoaaDoor
set_option linter.unusedSimpArgs false
set_option linter.unusedVariables false
open Go.ChangeShapes Go.WideShapes Go.ChangeAt Go.RowKit
theorem etN : Tryd.prog.globalNamed "errors.errorType" = some 1 := by kernel_rfl
theorem rtN : (Tryd.prog.cutTypes.find? (·.1 == "internal/reflectlite.rtype")).map (·.2) = some 189 := by kernel_rfl
theorem typesSize : Tryd.prog.types.size = 243 := by kernel_rfl
theorem oneRow : ((List.range 243).filter fun t => Tryd.prog.rowNamed t [101, 114, 114, 111, 114]) = [39] := by kernel_rfl
def laid2 : List (String × DataW Unit) := [("honeycomb/axis.six", Rows.laid_honeycomb_axis_six), ("errors.errorType", Rows.laid_errors_errorType)]
theorem six_of_laid2 {W : World} (h : laidMetH Tryd.prog laid2 W) : Six W := by
  have h' : laidMet Tryd.prog [("honeycomb/axis.six", Rows.laid_honeycomb_axis_six)] W ∧ handlesMet Tryd.prog [("errors.errorType", Rows.laid_errors_errorType)] W := h
  obtain ⟨ps, hv, _⟩ := h'.1
  exact six_of_vars hv
set_option maxRecDepth 100000 in
theorem handle_of_laid {W : World} (h : laidMetH Tryd.prog laid2 W) : Et W := by
  have h' : laidMet Tryd.prog [("honeycomb/axis.six", Rows.laid_honeycomb_axis_six)] W ∧ handlesMet Tryd.prog [("errors.errorType", Rows.laid_errors_errorType)] W := h
  obtain ⟨name, u, ty, e1, e2, e3, e4, e5⟩ := h'.2 _ (List.mem_singleton.2 rfl)
  have en : name = [101, 114, 114, 111, 114] := (Option.some.inj e1).symm
  subst en
  obtain rfl := Option.some.inj (rtN.symm.trans e2)
  have hm : ty ∈ (List.range 243).filter fun t => Tryd.prog.rowNamed t [101, 114, 114, 111, 114] := List.mem_filter.2 ⟨List.mem_range.2 (by rw [← typesSize]; exact e3), e4⟩
  rw [oneRow] at hm
  obtain rfl := List.mem_singleton.1 hm
  have hh : typeHandle Tryd.prog 39 = .pointer (some ⟨2, 39, none⟩) := by kernel_rfl
  rw [hh] at e5
  unfold Et
  simpa using World.var?_cell etN e5 0
set_option maxRecDepth 100000 in
theorem door_met2 (os : Os) (args : Array Value) : laidMetH Tryd.prog laid2 ((World.doorLaid Tryd.prog 27 os).forCall (fun _ _ => 0) ⟨#[], args, []⟩).memory :=
  laidMetH_of_parts3 (fuel := 8) (laidMet_of_run' 8 (by kernel_rfl) (by kernel_rfl)) (by kernel_rfl) (by kernel_rfl)
end Go.Proofs.YtaeenefdbahfoaaDoor
namespace Go.Proofs.YtaeenefdbahfoaaDoor
set_option linter.unusedSimpArgs false
set_option linter.unusedVariables false
open Go.RowKit Go.Proofs.YtaeenefdbahfoaaDoorW.PrintWords Go.Proofs.YtaeenefdbahfoaaDoorW.PrintLast Go.Proofs.YtaeenefdbahfoaaDoorW.PrintMore
open H
open Go.Shelf Go.RowKit Go.Lib Go.Sort
set_option maxRecDepth 100000 in
set_option maxHeartbeats 2000000 in
theorem on_refused (l o a b h c : Int) (w : World) (hc : checkR l a b h = some c) :
    Calls Tryd.prog 56 #[.int .i64 l, .int .i64 o, .agg #[.int .i64 a, .int .i64 b, .int .i64 h]] w fun e w' => e = .returned (.tuple #[.agg #[.int .i64 0, .int .i64 0, .int .i64 0], errW (some c)]) ∧ Below w.heap.size w w' := by
  have hck := fun W => check_any l a b h W
  simp only [hc, errW_some] at hck ⊢
  go_enter Tryd.func56, Tryd.ntmps56
  go_wp2_with fail
  obtain ⟨w2, hw2, hcc, _, hsz, hB2⟩ := two_new w #[.int .i64 a, .int .i64 b, .int .i64 h] #[.int .i64 0, .int .i64 0, .int .i64 0] 65 65
  have hz0 : w.heap.size < w2.heap.size := by omega
  have hrb : w2.heap[w.heap.size + 1]? = some (.cells #[.int .i64 0, .int .i64 0, .int .i64 0] 65 (0, 0)) := by
    rw [hw2]
    have := blk_new (w.alloc (.cells #[.int .i64 a, .int .i64 b, .int .i64 h] 65)) (.cells #[.int .i64 0, .int .i64 0, .int .i64 0] 65 (0, 0))
    simpa using this
  rw [← hw2]
  clear hw2
  have d0 : w2.cell? ⟨w.heap.size, 0, none⟩ = some (.int .i64 a) := hcc 0 _ rfl
  have d1 : w2.cell? ⟨w.heap.size, 1, none⟩ = some (.int .i64 b) := hcc 1 _ rfl
  have d2 : w2.cell? ⟨w.heap.size, 2, none⟩ = some (.int .i64 h) := hcc 2 _ rfl
  have HB2 := Aside0.mk hB2
  have RB := Aside0.mk hrb
  clear hcc hB2 hrb
  go_wp2_with (first
      | (go_at_call 81; refine (hck _).mono ?_; rintro e w3 ⟨rfl, hb3⟩
         have hr3 := blk_below RB.out hb3
         have q0 := blk_cell hr3 0
         have q1 := blk_cell hr3 1
         have q2 := blk_cell hr3 2
         have q3 := blk_frozen hr3
         have d0 := pw_cell_below hb3 d0
         have d1 := pw_cell_below hb3 d1
         have d2 := pw_cell_below hb3 d2
         have RB3 := Aside0.mk hr3
         have HB3 := Aside0.mk (HB2.out.trans (hb3.mono HB2.out.size))
         clear hr3 hb3))
  have hr := blk_set (blk_set (blk_set RB3.out 0 (.int .i64 (0))) 1 (.int .i64 (0))) 2 (.int .i64 (0))
  refine bodyPost_ret (results_ct rfl _ _ (w.heap.size + 1) 65 #[.int .i64 (0), .int .i64 (0), .int .i64 (0)] (0, 0) _ rfl hr Tryd.underlying65 rfl (by kernel_rfl)) rfl ⟨rfl, ?_⟩
  exact (Below.setCell (p := ⟨w.heap.size + 1, 2, none⟩) (Below.setCell (p := ⟨w.heap.size + 1, 1, none⟩) (Below.setCell (p := ⟨w.heap.size + 1, 0, none⟩) HB3.out (Nat.le_succ _) _) (Nat.le_succ _) _) (Nat.le_succ _) _)
set_option maxRecDepth 100000 in
set_option maxHeartbeats 2000000 in
theorem on_badop (l o a b h : Int) (w : World) (hc : checkR l a b h = none) (ho : ¬ (0 ≤ o ∧ o < 12)) :
    Calls Tryd.prog 56 #[.int .i64 l, .int .i64 o, .agg #[.int .i64 a, .int .i64 b, .int .i64 h]] w fun e w' => e = .returned (.tuple #[.agg #[.int .i64 0, .int .i64 0, .int .i64 0], errW (some 4)]) ∧ Below w.heap.size w w' := by
  have hck := fun W => check_any l a b h W
  simp only [hc, errW_none, errW_some] at hck ⊢
  have hog := fun W => opgood_any o W
  simp only [decide_eq_false ho] at hog
  go_enter Tryd.func56, Tryd.ntmps56
  go_wp2_with fail
  obtain ⟨w2, hw2, hcc, _, hsz, hB2⟩ := two_new w #[.int .i64 a, .int .i64 b, .int .i64 h] #[.int .i64 0, .int .i64 0, .int .i64 0] 65 65
  have hz0 : w.heap.size < w2.heap.size := by omega
  have hrb : w2.heap[w.heap.size + 1]? = some (.cells #[.int .i64 0, .int .i64 0, .int .i64 0] 65 (0, 0)) := by
    rw [hw2]
    have := blk_new (w.alloc (.cells #[.int .i64 a, .int .i64 b, .int .i64 h] 65)) (.cells #[.int .i64 0, .int .i64 0, .int .i64 0] 65 (0, 0))
    simpa using this
  rw [← hw2]
  clear hw2
  have d0 : w2.cell? ⟨w.heap.size, 0, none⟩ = some (.int .i64 a) := hcc 0 _ rfl
  have d1 : w2.cell? ⟨w.heap.size, 1, none⟩ = some (.int .i64 b) := hcc 1 _ rfl
  have d2 : w2.cell? ⟨w.heap.size, 2, none⟩ = some (.int .i64 h) := hcc 2 _ rfl
  have HB2 := Aside0.mk hB2
  have RB := Aside0.mk hrb
  clear hcc hB2 hrb
  go_wp2_with (first
      | (go_at_call 81; refine (hck _).mono ?_; rintro e w3 ⟨rfl, hb3⟩
         have hr3 := blk_below RB.out hb3
         have q0 := blk_cell hr3 0
         have q1 := blk_cell hr3 1
         have q2 := blk_cell hr3 2
         have q3 := blk_frozen hr3
         have d0 := pw_cell_below hb3 d0
         have d1 := pw_cell_below hb3 d1
         have d2 := pw_cell_below hb3 d2
         have RB3 := Aside0.mk hr3
         have HB3 := Aside0.mk (HB2.out.trans (hb3.mono HB2.out.size))
         clear hr3 hb3)
      | (go_at_call 44; refine (hog _).mono ?_; rintro e w3' ⟨rfl, rfl⟩))
  have hr := blk_set (blk_set (blk_set RB3.out 0 (.int .i64 (0))) 1 (.int .i64 (0))) 2 (.int .i64 (0))
  refine bodyPost_ret (results_ct rfl _ _ (w.heap.size + 1) 65 #[.int .i64 (0), .int .i64 (0), .int .i64 (0)] (0, 0) _ rfl hr Tryd.underlying65 rfl (by kernel_rfl)) rfl ⟨rfl, ?_⟩
  exact (Below.setCell (p := ⟨w.heap.size + 1, 2, none⟩) (Below.setCell (p := ⟨w.heap.size + 1, 1, none⟩) (Below.setCell (p := ⟨w.heap.size + 1, 0, none⟩) HB3.out (Nat.le_succ _) _) (Nat.le_succ _) _) (Nat.le_succ _) _)
set_option maxRecDepth 100000 in
set_option maxHeartbeats 2000000 in
theorem onH_any (o a b h : Int) (hh : h = 0) (w : World) (hg : goodP a b) (ho : 0 ≤ o) (ho' : o < 12) :
    Calls Tryd.prog 56 #[.int .i64 1, .int .i64 o, .agg #[.int .i64 a, .int .i64 b, .int .i64 h]] w fun e w' => (if goodP (onP o a b).1 (onP o a b).2 then e = .returned (.tuple #[.agg #[.int .i64 (onP o a b).1, .int .i64 (onP o a b).2, .int .i64 0], .nilIface]) else e = .returned (.tuple #[.agg #[.int .i64 0, .int .i64 0, .int .i64 0], errW (some 6)])) ∧ Below w.heap.size w w' := by
  have hc : checkR 1 a b h = none := by
    unfold checkR
    rw [hh, if_pos ⟨by omega, by omega⟩, if_neg (by decide), if_pos hg]
  clear hh
  have hck := fun W => check_any 1 a b h W
  simp only [hc, errW_none, errW_some] at hck ⊢
  have hog := fun W => opgood_any o W
  simp only [decide_eq_true (And.intro ho ho')] at hog
  have hop := fun W => opOn_any o a b W
  unfold opOnR at hop
  rw [if_pos ⟨ho, ho'⟩, if_pos hg] at hop
  by_cases hq : goodP (onP o a b).1 (onP o a b).2
  all_goals
    simp only [hq, ↓reduceIte, errW_some] at hop ⊢
    clear hq
    generalize (onP o a b).1 = x at hop ⊢
    generalize (onP o a b).2 = y at hop ⊢
    go_enter Tryd.func56, Tryd.ntmps56
    go_wp2_with fail
    obtain ⟨w2, hw2, hcc, _, hsz, hB2⟩ := two_new w #[.int .i64 a, .int .i64 b, .int .i64 h] #[.int .i64 0, .int .i64 0, .int .i64 0] 65 65
    have hz0 : w.heap.size < w2.heap.size := by omega
    have hrb : w2.heap[w.heap.size + 1]? = some (.cells #[.int .i64 0, .int .i64 0, .int .i64 0] 65 (0, 0)) := by
      rw [hw2]
      have := blk_new (w.alloc (.cells #[.int .i64 a, .int .i64 b, .int .i64 h] 65)) (.cells #[.int .i64 0, .int .i64 0, .int .i64 0] 65 (0, 0))
      simpa using this
    rw [← hw2]
    clear hw2
    have d0 : w2.cell? ⟨w.heap.size, 0, none⟩ = some (.int .i64 a) := hcc 0 _ rfl
    have d1 : w2.cell? ⟨w.heap.size, 1, none⟩ = some (.int .i64 b) := hcc 1 _ rfl
    have d2 : w2.cell? ⟨w.heap.size, 2, none⟩ = some (.int .i64 h) := hcc 2 _ rfl
    have HB2 := Aside0.mk hB2
    have RB := Aside0.mk hrb
    clear hcc hB2 hrb
    go_wp2_with (first
      | (go_at_call 81; refine (hck _).mono ?_; rintro e w3 ⟨rfl, hb3⟩
         have hr3 := blk_below RB.out hb3
         have q0 := blk_cell hr3 0
         have q1 := blk_cell hr3 1
         have q2 := blk_cell hr3 2
         have q3 := blk_frozen hr3
         have d0 := pw_cell_below hb3 d0
         have d1 := pw_cell_below hb3 d1
         have d2 := pw_cell_below hb3 d2
         have RB3 := Aside0.mk hr3
         have HB3 := Aside0.mk (HB2.out.trans (hb3.mono HB2.out.size))
         clear hr3 hb3)
      | (go_at_call 44; refine (hog _).mono ?_; rintro e w3' ⟨rfl, rfl⟩)
      | (go_at_call 90; refine (hop _).mono ?_; rintro e w4 ⟨rfl, hb4⟩
         have hr4' := blk_below RB3.out hb4
         have q0 := blk_cell hr4' 0
         have q1 := blk_cell hr4' 1
         have q2 := blk_cell hr4' 2
         have q3 := blk_frozen hr4'
         have hzr : w.heap.size + 1 < w4.heap.size := blk_lt hr4'
         have RB4 := Aside0.mk hr4'
         have HB4 := Aside0.mk (HB3.out.trans (hb4.mono HB3.out.size))
         clear hb4 hr4'))
  · have hr := blk_alloc (blk_set (blk_set (blk_set RB4.out 0 (.int .i64 (x))) 1 (.int .i64 (y))) 2 (.int .i64 (0))) (.cells #[.int .i64 x, .int .i64 y] 63)
    refine bodyPost_ret (results_ct rfl _ _ (w.heap.size + 1) 65 #[.int .i64 (x), .int .i64 (y), .int .i64 (0)] (0, 0) _ rfl hr Tryd.underlying65 rfl (by kernel_rfl)) rfl ⟨rfl, ?_⟩
    exact below_alloc (Below.setCell (p := ⟨w.heap.size + 1, 2, none⟩) (Below.setCell (p := ⟨w.heap.size + 1, 1, none⟩) (Below.setCell (p := ⟨w.heap.size + 1, 0, none⟩) HB4.out (Nat.le_succ _) _) (Nat.le_succ _) _) (Nat.le_succ _) _) _
  · have hr := blk_alloc (blk_set (blk_set (blk_set RB4.out 0 (.int .i64 (0))) 1 (.int .i64 (0))) 2 (.int .i64 (0))) (.cells #[.int .i64 0, .int .i64 0] 63)
    refine bodyPost_ret (results_ct rfl _ _ (w.heap.size + 1) 65 #[.int .i64 (0), .int .i64 (0), .int .i64 (0)] (0, 0) _ rfl hr Tryd.underlying65 rfl (by kernel_rfl)) rfl ⟨rfl, ?_⟩
    exact below_alloc (Below.setCell (p := ⟨w.heap.size + 1, 2, none⟩) (Below.setCell (p := ⟨w.heap.size + 1, 1, none⟩) (Below.setCell (p := ⟨w.heap.size + 1, 0, none⟩) HB4.out (Nat.le_succ _) _) (Nat.le_succ _) _) (Nat.le_succ _) _) _
/-- where an operator brings a cell -/
def onC (l o : Int) (x : CL) : CL := if l = 1 then ⟨⟨(onP o x.f0.f0 x.f0.f1).1, (onP o x.f0.f0 x.f0.f1).2⟩, 0⟩ else onT o x.f0.f0 x.f0.f1 x.f1
def onR (l o : Int) (x : CL) : CL × Option Int :=
  match checkR l x.f0.f0 x.f0.f1 x.f1 with
  | some c => (mk 0 0 0, some c)
  | none => if 0 ≤ o ∧ o < 12 then (if goodP (onC l o x).f0.f0 (onC l o x).f0.f1 then (onC l o x, none) else (mk 0 0 0, some 6)) else (mk 0 0 0, some 4)
theorem on_any (l o : Int) (x : CL) (w : World) :
    Calls Tryd.prog 56 #[.int .i64 l, .int .i64 o, .agg #[.int .i64 x.f0.f0, .int .i64 x.f0.f1, .int .i64 x.f1]] w fun e w' => e = .returned (.tuple #[.agg #[.int .i64 (onR l o x).1.f0.f0, .int .i64 (onR l o x).1.f0.f1, .int .i64 (onR l o x).1.f1], errW (onR l o x).2]) ∧ Below w.heap.size w w' := by
  unfold onR
  cases hc : checkR l x.f0.f0 x.f0.f1 x.f1 with
  | some c => exact on_refused l o _ _ _ c w hc
  | none =>
    by_cases ho : 0 ≤ o ∧ o < 12
    · obtain ⟨q1, q2, q3, q4, q5⟩ := checkR_ok hc
      simp only [if_pos ho]
      by_cases hl : l = 1
      · subst hl
        refine (onH_any o x.f0.f0 x.f0.f1 x.f1 (q5 rfl) w q3 ho.1 ho.2).mono ?_
        rintro e w' ⟨he, hb⟩
        refine ⟨?_, hb⟩
        simp only [onC, ↓reduceIte]
        by_cases hq : goodP (onP o x.f0.f0 x.f0.f1).1 (onP o x.f0.f0 x.f0.f1).2
        · simp only [hq, ↓reduceIte] at he ⊢
          rw [he]; rfl
        · simp only [hq, ↓reduceIte] at he ⊢
          rw [he]; rfl
      · refine (onT_any l o x.f0.f0 x.f0.f1 x.f1 w (by omega) q2 ho.1 ho.2 q3 (by omega) (by omega)).mono ?_
        rintro e w' ⟨he, hb⟩
        refine ⟨?_, hb⟩
        simp only [onC, hl, ↓reduceIte]
        by_cases hq : goodP (onT o x.f0.f0 x.f0.f1 x.f1).f0.f0 (onT o x.f0.f0 x.f0.f1 x.f1).f0.f1
        · simp only [hq, ↓reduceIte] at he ⊢
          rw [he]; rfl
        · simp only [hq, ↓reduceIte] at he ⊢
          rw [he]; rfl
    · simp only [if_neg ho]
      exact on_badop l o _ _ _ w hc ho
def XOn.f (l o a b h : Int) : Option (Int × Int × Int × Option Int) := some ((onR l o (mk a b h)).1.f0.f0, (onR l o (mk a b h)).1.f0.f1, (onR l o (mk a b h)).1.f1, (onR l o (mk a b h)).2)
theorem XOn.calls (a0 : Int) (a1 : Int) (a2_0 : Int) (a2_1 : Int) (a2_2 : Int) (r1 : Int) (r2 : Int) (r3 : Int) (r4 : Option Int) (w : World) (h : XOn.f a0 a1 a2_0 a2_1 a2_2 = some (r1, r2, r3, r4)) :
    Calls Tryd.prog 56 #[.int .i64 a0, .int .i64 a1, .agg #[.int .i64 a2_0, .int .i64 a2_1, .int .i64 a2_2]] w fun e w' => e = .returned (.tuple #[.agg #[.int .i64 r1, .int .i64 r2, .int .i64 r3], errW r4]) ∧ Below w.heap.size w w' := by
  simp only [XOn.f, Option.some.injEq, Prod.mk.injEq] at h
  obtain ⟨rfl, rfl, rfl, rfl⟩ := h
  exact on_any a0 a1 (mk a2_0 a2_1 a2_2) w
end Go.Proofs.YtaeenefdbahfoaaDoor
namespace Go.Proofs.YtaeenefdbahfoaaDoor
set_option linter.unusedSimpArgs false
set_option linter.unusedVariables false
open Go.RowKit Go.Proofs.YtaeenefdbahfoaaDoorW.PrintWords Go.Proofs.YtaeenefdbahfoaaDoorW.PrintLast Go.Proofs.YtaeenefdbahfoaaDoorW.PrintMore
open H
def XOpOn.f (o a b : Int) : Option (Int × Int × Option Int) :=
  some (if 0 ≤ o ∧ o < 12 then (if goodP a b then (if goodP (onP o a b).1 (onP o a b).2 then ((onP o a b).1, (onP o a b).2, none) else (0, 0, some 6)) else (0, 0, some 6)) else (0, 0, some 4))
theorem XOpOn.calls (a0 : Int) (a1_0 : Int) (a1_1 : Int) (r1 : Int) (r2 : Int) (r3 : Option Int) (w : World) (h : XOpOn.f a0 a1_0 a1_1 = some (r1, r2, r3)) :
    Calls Tryd.prog 90 #[.int .i64 a0, .agg #[.int .i64 a1_0, .int .i64 a1_1]] w fun e w' => e = .returned (.tuple #[.agg #[.int .i64 r1, .int .i64 r2], errW r3]) ∧ Below w.heap.size w w' := by
  refine (opOn_any a0 a1_0 a1_1 w).mono ?_
  rintro e w' ⟨rfl, hb⟩
  refine ⟨?_, hb⟩
  have h' := Option.some.inj h
  unfold opOnR
  by_cases h1 : 0 ≤ a0 ∧ a0 < 12
  · rw [if_pos h1] at h' ⊢
    by_cases h2 : goodP a1_0 a1_1
    · rw [if_pos h2] at h' ⊢
      by_cases h3 : goodP (onP a0 a1_0 a1_1).1 (onP a0 a1_0 a1_1).2
      · rw [if_pos h3] at h' ⊢
        simp only [Prod.mk.injEq] at h'
        obtain ⟨rfl, rfl, rfl⟩ := h'
        rfl
      · rw [if_neg h3] at h' ⊢
        simp only [Prod.mk.injEq] at h'
        obtain ⟨rfl, rfl, rfl⟩ := h'
        rfl
    · rw [if_neg h2] at h' ⊢
      simp only [Prod.mk.injEq] at h'
      obtain ⟨rfl, rfl, rfl⟩ := h'
      rfl
  · rw [if_neg h1] at h' ⊢
    simp only [Prod.mk.injEq] at h'
    obtain ⟨rfl, rfl, rfl⟩ := h'
    rfl
end Go.Proofs.YtaeenefdbahfoaaDoor
namespace Go.Proofs.YtaeenefdbahfoaaDoor
set_option linter.unusedSimpArgs false
set_option linter.unusedVariables false
open Go.RowKit Go.Proofs.YtaeenefdbahfoaaDoorW.PrintWords Go.Proofs.YtaeenefdbahfoaaDoorW.PrintLast Go.Proofs.YtaeenefdbahfoaaDoorW.PrintMore
def XSix.f : Option (Int × Int × Int × Int × Int × Int × Int × Int × Int × Int × Int × Int) := some (1, 0, 0, 1, -1, 1, -1, 0, 0, -1, 1, -1)
theorem XSix.calls (r1 r2 r3 r4 r5 r6 r7 r8 r9 r10 r11 r12 : Int) (w : World) (hGSix : Six w) (h : XSix.f = some (r1, r2, r3, r4, r5, r6, r7, r8, r9, r10, r11, r12)) :
    Calls Tryd.prog 32 #[] w fun e w' => e = .returned (.agg #[.int .i64 r1, .int .i64 r2, .int .i64 r3, .int .i64 r4, .int .i64 r5, .int .i64 r6, .int .i64 r7, .int .i64 r8, .int .i64 r9, .int .i64 r10, .int .i64 r11, .int .i64 r12]) ∧ Below w.heap.size w w' := by
  simp only [XSix.f, Option.some.injEq, Prod.mk.injEq] at h
  obtain ⟨rfl, rfl, rfl, rfl, rfl, rfl, rfl, rfl, rfl, rfl, rfl, rfl⟩ := h
  exact six_any w hGSix
end Go.Proofs.YtaeenefdbahfoaaDoor
namespace Go.Proofs.YtaeenefdbahfoaaDoor.H
open Go.RowKit Go.Proofs.YtaeenefdbahfoaaDoorW.PrintWords Go.Proofs.YtaeenefdbahfoaaDoorW.PrintLast Go.Proofs.YtaeenefdbahfoaaDoorW.PrintMore
attribute [local go_sem] max2_int min2_int max_two min_two max_three min_three max_four min_four
set_option linter.unusedVariables false
set_option linter.unusedSimpArgs false
theorem eqA63 (d : Nat) (w : World) (x0 y0 : Int) (x1 y1 : Int) :
    (Op.equalIn (d + 2) 63 (.agg #[.int .i64 x0, .int .i64 x1]) (.agg #[.int .i64 y0, .int .i64 y1])).run Tryd.prog w = .ok (x0 == y0 && (x1 == y1)) w := by
  refine eqA_of Tryd.underlying63 (by kernel_rfl) ?_
  refine eqf_cons (by rfl) (by go_simp; rfl) (by go_simp; rfl) (by go_simp) ?_
  exact eqf_last (by rfl) (by go_simp; rfl) (by go_simp; rfl) (by go_simp)
attribute [local go_sem high] eqA63
def table_most.f (a0 : Int) : Option (Int) := if a0 = 1 then (some 63) else (if a0 = 2 then (some 3) else (some 12))
set_option maxHeartbeats 8000000 in
set_option maxRecDepth 100000 in
theorem table_most.calls (a0 : Int) (r : Int) (w : World) (h : table_most.f a0 = some r) :
  Calls Tryd.prog 86 #[.int .i64 a0] w fun e w' => e = .returned (.int .i64 r) ∧ Drawn0 w w' := by
 have H : (if a0 = 1 then (some 63) else (if a0 = 2 then (some 3) else (some 12))) = some r := h
 clear h
 by_cases c2 : a0 = 1
 ·
  rw [if_pos c2] at H
  have c2b0 : (a0 == 1) = true := beq_iff_eq.mpr c2
  have c2b1 : (a0 != 1) = false := bne_eq_false_iff_eq.mpr c2
  clear c2
  obtain rfl := Option.some.inj H
  go_enter Tryd.func86, Tryd.ntmps86
  go_wp2
  go_ret
  exact ⟨by first | rfl | (simp; done) | (simp [*]; done), by repeat (first | exact Drawn0.refl _ | apply Drawn0.step)⟩
 rw [if_neg c2] at H
 have c2b0 : (a0 == 1) = false := beq_eq_false_iff_ne.mpr c2
 have c2b1 : (a0 != 1) = true := bne_iff_ne.mpr c2
 by_cases c3 : a0 = 2
 rotate_left
 ·
  rw [if_neg c3] at H
  have c3b0 : (a0 == 2) = false := beq_eq_false_iff_ne.mpr c3
  have c3b1 : (a0 != 2) = true := bne_iff_ne.mpr c3
  obtain rfl := Option.some.inj H
  go_enter Tryd.func86, Tryd.ntmps86
  go_wp2
  go_ret
  exact ⟨by first | rfl | (simp; done) | (simp [*]; done), by repeat (first | exact Drawn0.refl _ | apply Drawn0.step)⟩
 rw [if_pos c3] at H
 have c3b0 : (a0 == 2) = true := beq_iff_eq.mpr c3
 have c3b1 : (a0 != 2) = false := bne_eq_false_iff_eq.mpr c3
 clear c3
 obtain rfl := Option.some.inj H
 go_enter Tryd.func86, Tryd.ntmps86
 go_wp2
 go_ret
 exact ⟨by first | rfl | (simp; done) | (simp [*]; done), by repeat (first | exact Drawn0.refl _ | apply Drawn0.step)⟩
def axis_Point.l0 : Nat → List (S63) → Int → Int → Int → Int → Option (Int)
 | 0, _, _, _, _, _ => none
 | k + 1, x0, x7, x8, x105000, x105001 => if x8 < x7 then (if 0 ≤ x8 then (if x8 < (x0.length : Int) then (if (x105000 == ((rd_T63 x0 x8).f0) && (x105001 == ((rd_T63 x0 x8).f1))) = true then (some x8) else (axis_Point.l0 k x0 x7 (wrap64 (x8 + 1)) x105000 x105001)) else (none)) else (none)) else (some (-1))
def axis_Point.f (k : Nat) (l0 : List (S63)) (a1_0 : Int) (a1_1 : Int) : Option (Int) := axis_Point.l0 k l0 (l0.length : Int) 0 a1_0 a1_1
set_option maxHeartbeats 8000000 in
set_option maxRecDepth 100000 in
theorem axis_Point.calls (k : Nat) (A0 : Option Addr) (c0 : Nat) (l0 : List (S63)) (a1_0 : Int) (a1_1 : Int) (r : Int) (w : World) (hr0 : Kd.C k63 w A0 l0.length l0) (hc0 : l0.length ≤ c0) (h : axis_Point.f k l0 a1_0 a1_1 = some r) :
  Calls Tryd.prog 93 #[.slice A0 l0.length c0, .agg #[.int .i64 a1_0, .int .i64 a1_1]] w fun e w' => e = .returned (.int .i64 r) ∧ Below w.heap.size w w' := by
 have hu63 := Tryd.underlying63
 have HR0 := Aside0.mk hr0
 have HC0 := Aside0.mk hc0
 clear hr0 hc0
 have HB := Aside0.mk (Below.refl w.heap.size w)
 have H : (axis_Point.l0 k l0 (l0.length : Int) 0 a1_0 a1_1) = some r := h
 clear h
 have H' := Aside0.mk H
 clear H
 go_enter Tryd.func93, Tryd.ntmps93
 go_wp2_with (first | ((with_reducible refine gate_dst (N := 3) rfl ?_); refine bx_ 3 #[.int .i64 a1_0, .int .i64 a1_1] 63 ?_; intro gb104 hg w3 hbox hb; have BK104 := Aside0.mk (hbox); have GW104 := Aside0.mk ((by rw [hg]; exact (below_size hb_) : w.heap.size ≤ gb104)); have GE104 := GW104; replace HB := Aside0.mk (below_step hb_ hb); clear hb hbox hg))
 repeat (go_quiet (first | ((with_reducible refine gate_dst (N := 3) rfl ?_); refine bx_ 3 #[.int .i64 a1_0, .int .i64 a1_1] 63 ?_; intro gb104 hg w3 hbox hb; have BK104 := Aside0.mk (hbox); have GW104 := Aside0.mk ((by rw [hg]; exact (below_size hb_) : w.heap.size ≤ gb104)); have GE104 := GW104; replace HB := Aside0.mk (below_step hb_ hb); clear hb hbox hg)); try go_wp2_with (first | ((with_reducible refine gate_dst (N := 3) rfl ?_); refine bx_ 3 #[.int .i64 a1_0, .int .i64 a1_1] 63 ?_; intro gb104 hg w3 hbox hb; have BK104 := Aside0.mk (hbox); have GW104 := Aside0.mk ((by rw [hg]; exact (below_size hb_) : w.heap.size ≤ gb104)); have GE104 := GW104; replace HB := Aside0.mk (below_step hb_ hb); clear hb hbox hg)))
 go_loopg [8] k (fun kq v8 w' => ∃ (x8_1 : Int), v8 = .int .i64 x8_1 ∧ Aside0 (axis_Point.l0 kq l0 (l0.length : Int) x8_1 a1_0 a1_1 = some r) ∧ Aside0 (kq ≤ k) ∧ Aside0 (w'.heap[gb104]? = some (.cells #[.int .i64 a1_0, .int .i64 a1_1] 63 (0, 0))) ∧ Aside0 (Below w.heap.size w w'))
 case atStart => exact ⟨(0), rs_, H', ⟨Nat.le_refl _⟩, ⟨bk_ BK104.out⟩, ⟨by repeat (first | (with_reducible first | exact HB.out | apply ba_ | apply bn_ | apply bd_ | refine below_set ?_ GE104.out) | exact HB.out)⟩⟩
 case round =>
  clear H'
  try clear p2
  obtain ⟨x8_1, rfl, HA, HK1, BK104, HB⟩ := hrel
  cases gk with
  | zero => exact absurd HA.out (by simp [axis_Point.l0])
  | succ k1 =>
   have H := HA.out
   clear HA
   simp only [axis_Point.l0] at H
   by_cases c4 : x8_1 < (l0.length : Int)
   rotate_left
   ·
    rw [if_neg c4] at H
    have c4b0 : decide (x8_1 < (l0.length : Int)) = false := decide_eq_false c4
    clear c4
    obtain rfl := Option.some.inj H
    go_wp2
    repeat (go_quiet (fail); try go_wp2)
    go_ret
    exact ⟨er_, hg_ GE104.out⟩
   rw [if_pos c4] at H
   have c4b0 : decide (x8_1 < (l0.length : Int)) = true := decide_eq_true c4
   clear c4
   by_cases c5 : 0 ≤ x8_1
   rotate_left
   ·
    rw [if_neg c5] at H
    exact absurd H (by simp)
   rw [if_pos c5] at H
   have c5b0 : decide (0 ≤ x8_1) = true := decide_eq_true c5
   clear c5
   by_cases c6 : x8_1 < (l0.length : Int)
   rotate_left
   ·
    rw [if_neg c6] at H
    exact absurd H (by simp)
   rw [if_pos c6] at H
   have c6b0 : decide (x8_1 < (l0.length : Int)) = true := decide_eq_true c6
   clear c6
   by_cases c7 : (a1_0 == ((rd_T63 l0 x8_1).f0) && (a1_1 == ((rd_T63 l0 x8_1).f1))) = true
   ·
    rw [if_pos c7] at H
    have c7b0 : (a1_0 == ((rd_T63 l0 x8_1).f0) && (a1_1 == ((rd_T63 l0 x8_1).f1))) = true := c7
    (try (have c7b1 : decide (a1_0 = ((rd_T63 l0 x8_1).f0) && (a1_1 == ((rd_T63 l0 x8_1).f1))) = true := by simpa using c7))
    (try (have c7b2 : (a1_0 == ((rd_T63 l0 x8_1).f0) && (a1_1 == ((rd_T63 l0 x8_1).f1))) = true := by simpa using c7))
    clear c7
    obtain rfl := Option.some.inj H
    obtain ⟨hcz8_0, hcz8_1⟩ := cz2_ BK104.out
    obtain ⟨hfz8_0, hfz8_1⟩ := fz2_ BK104.out
    have p105 : 0 ≤ (x8_1 : Int) := of_decide_eq_true as_
    have q105 : x8_1 < (l0.length : Int) := of_decide_eq_true as_
    obtain ⟨ad105, e105, hx105_0, hx105_1⟩ := at_T63 HR0.out x8_1 p105 q105
    cases e105
    try replace hx105_0 := (HB.out.cell (World.block_lt_of_cell? w _ hx105_0)).trans hx105_0
    try replace hx105_1 := (HB.out.cell (World.block_lt_of_cell? w _ hx105_1)).trans hx105_1
    replace p105 := eq_true p105
    replace q105 := eq_true q105
    go_wp2
    repeat (go_quiet (fail); try go_wp2)
    go_ret
    exact ⟨er_, hg_ GE104.out⟩
   rw [if_neg c7] at H
   have c7b0 : (a1_0 == ((rd_T63 l0 x8_1).f0) && (a1_1 == ((rd_T63 l0 x8_1).f1))) = false := by simpa using c7
   (try (have c7b1 : decide (a1_0 = ((rd_T63 l0 x8_1).f0) && (a1_1 == ((rd_T63 l0 x8_1).f1))) = false := by simpa using c7))
   (try (have c7b2 : (a1_0 == ((rd_T63 l0 x8_1).f0) && (a1_1 == ((rd_T63 l0 x8_1).f1))) = false := by simpa using c7))
   (try (have c7b3 : ¬ (a1_0 = ((rd_T63 l0 x8_1).f0) && (a1_1 == ((rd_T63 l0 x8_1).f1))) := by simpa using c7))
   clear c7
   have H' := Aside0.mk H
   clear H
   obtain ⟨hcz9_0, hcz9_1⟩ := cz2_ BK104.out
   obtain ⟨hfz9_0, hfz9_1⟩ := fz2_ BK104.out
   have p105 : 0 ≤ (x8_1 : Int) := of_decide_eq_true as_
   have q105 : x8_1 < (l0.length : Int) := of_decide_eq_true as_
   obtain ⟨ad105, e105, hx105_0, hx105_1⟩ := at_T63 HR0.out x8_1 p105 q105
   cases e105
   try replace hx105_0 := (HB.out.cell (World.block_lt_of_cell? w _ hx105_0)).trans hx105_0
   try replace hx105_1 := (HB.out.cell (World.block_lt_of_cell? w _ hx105_1)).trans hx105_1
   replace p105 := eq_true p105
   replace q105 := eq_true q105
   go_wp2
   repeat (go_quiet (fail); try go_wp2)
   go_roundg k1
   case measure => have := HK1.out; omega
   case rel => exact ⟨(wrap64 (x8_1 + 1)), rs_, H', ⟨by have := HK1.out; omega⟩, ⟨bk_ BK104.out⟩, ⟨by repeat (first | (with_reducible first | exact HB.out | apply ba_ | apply bn_ | apply bd_ | refine below_set ?_ GE104.out) | exact HB.out)⟩⟩
def honeycomblaw05_Own.f (a0_0 : Int) (a0_1 : Int) (a0_2 : Int) (a0_3 : Int) (a0_4 : Int) : Option (Int × Int × Int × Int × Int) := some (a0_0, a0_1, a0_2, a0_3, a0_4)
set_option maxHeartbeats 8000000 in
set_option maxRecDepth 100000 in
theorem honeycomblaw05_Own.calls (a0_0 : Int) (a0_1 : Int) (a0_2 : Int) (a0_3 : Int) (a0_4 : Int) (r1 : Int) (r2 : Int) (r3 : Int) (r4 : Int) (r5 : Int) (w : World) (h : honeycomblaw05_Own.f a0_0 a0_1 a0_2 a0_3 a0_4 = some (r1, r2, r3, r4, r5)) :
  Calls Tryd.prog 46 #[.agg #[.int .i64 a0_0, .int .u64 a0_1, .int .u64 a0_2, .int .u64 a0_3, .int .u64 a0_4]] w fun e w' => e = .returned (.agg #[.int .i64 r1, .int .u64 r2, .int .u64 r3, .int .u64 r4, .int .u64 r5]) ∧ Below w.heap.size w w' := by
 have hu25 := Tryd.underlying25
 have hu29 := Tryd.underlying29
 have hu23 := Tryd.underlying23
 have HB := Aside0.mk (Below.refl w.heap.size w)
 have H : (some (a0_0, a0_1, a0_2, a0_3, a0_4)) = some (r1, r2, r3, r4, r5) := h
 clear h
 simp only [Option.some.injEq, Prod.mk.injEq] at H
 obtain ⟨rfl, rfl, rfl, rfl, rfl⟩ := H
 go_enter Tryd.func46, Tryd.ntmps46
 go_wp2_with (first | ((with_reducible refine gate_dst (N := 1) rfl ?_); refine bx_ 1 #[.int .i64 a0_0, .int .u64 a0_1, .int .u64 a0_2, .int .u64 a0_3, .int .u64 a0_4] 25 ?_; intro gb207 hg w2 hbox hb; have BK207 := Aside0.mk (hbox); have GW207 := Aside0.mk ((by rw [hg]; exact (below_size hb_) : w.heap.size ≤ gb207)); have GE207 := GW207; replace HB := Aside0.mk (below_step hb_ hb); clear hb hbox hg) | ((with_reducible refine gate_dst (N := 2) rfl ?_); refine bx_ 2 #[.int .i64 0, .int .u64 0, .int .u64 0, .int .u64 0, .int .u64 0] 29 ?_; intro gb208 hg w3 hbox hb; have BK208 := Aside0.mk (hbox); have GW208 := Aside0.mk ((by rw [hg]; exact (below_size (hg_ GE207.out)) : w.heap.size ≤ gb208)); have GE208 := GW208; have NB207_208 := Aside0.mk ((by rw [hg]; exact ne1_ BK207.out : gb207 ≠ gb208)); have NB208_207 := Aside0.mk ((by rw [hg]; exact ne2_ BK207.out : gb208 ≠ gb207)); replace BK207 := bb_ BK207.out hb; replace HB := Aside0.mk (below_step (hg_ GE207.out) hb); clear hb hbox hg; have hnb4 := NB207_208.out; have hnc4 := NB208_207.out; obtain ⟨hcz5_0, hcz5_1, hcz5_2, hcz5_3, hcz5_4⟩ := cz5_ BK207.out; obtain ⟨hfz5_0, hfz5_1, hfz5_2, hfz5_3, hfz5_4⟩ := fz5_ BK207.out; obtain ⟨hcz6_0, hcz6_1, hcz6_2, hcz6_3, hcz6_4⟩ := cz5_ BK208.out; obtain ⟨hfz6_0, hfz6_1, hfz6_2, hfz6_3, hfz6_4⟩ := fz5_ BK208.out))
 refine bodyPost_ret (results_cell_row rfl _ _ gb208 29 #[.int .i64 a0_0, .int .u64 a0_1, .int .u64 a0_2, .int .u64 a0_3, .int .u64 a0_4] (0, 0) _ rfl (by (with_reducible repeat (first | apply bN_ | apply bD_ | apply bA_)); refine blk_put (cs := #[.int .i64 a0_0, .int .u64 a0_1, .int .u64 a0_2, .int .u64 a0_3, .int .u64 0]) ?_ 4 _ rfl; (with_reducible repeat (first | apply bN_ | apply bD_ | apply bA_)); refine blk_put (cs := #[.int .i64 a0_0, .int .u64 a0_1, .int .u64 a0_2, .int .u64 0, .int .u64 0]) ?_ 3 _ rfl; (with_reducible repeat (first | apply bN_ | apply bD_ | apply bA_)); refine blk_put (cs := #[.int .i64 a0_0, .int .u64 a0_1, .int .u64 0, .int .u64 0, .int .u64 0]) ?_ 2 _ rfl; (with_reducible repeat (first | apply bN_ | apply bD_ | apply bA_)); refine blk_put (cs := #[.int .i64 a0_0, .int .u64 0, .int .u64 0, .int .u64 0, .int .u64 0]) ?_ 1 _ rfl; (with_reducible repeat (first | apply bN_ | apply bD_ | apply bA_)); refine blk_put (cs := #[.int .i64 0, .int .u64 0, .int .u64 0, .int .u64 0, .int .u64 0]) ?_ 0 _ rfl; (with_reducible repeat (first | apply bN_ | apply bD_ | apply bA_)); exact BK208.out) Tryd.underlying29 rfl (by kernel_rfl)) rfl ?_
 exact ⟨er_, hg2_ GE207.out GE208.out⟩
end Go.Proofs.YtaeenefdbahfoaaDoor.H
namespace Go.Proofs.YtaeenefdbahfoaaDoor
open Go.RowKit Go.Proofs.YtaeenefdbahfoaaDoorW.PrintWords Go.Proofs.YtaeenefdbahfoaaDoorW.PrintLast Go.Proofs.YtaeenefdbahfoaaDoorW.PrintMore
open H
open Go.RowKit
set_option linter.unusedSimpArgs false
def sixL : List S63 := [⟨1, 0⟩, ⟨0, 1⟩, ⟨-1, 1⟩, ⟨-1, 0⟩, ⟨0, -1⟩, ⟨1, -1⟩]
theorem sixL_C {w : World} {g : Nat} (h : w.heap[g]? = some (.cells #[.int .i64 1, .int .i64 0, .int .i64 0, .int .i64 1, .int .i64 (-1), .int .i64 1, .int .i64 (-1), .int .i64 0, .int .i64 0, .int .i64 (-1), .int .i64 1, .int .i64 (-1)] 69 (0, 0))) :
    Kd.C k63 w (some ⟨g, 0, none⟩) sixL.length sixL := by
  refine ⟨rfl, by decide, fun _ => ⟨_, rfl, fun j p hp => ?_⟩⟩
  refine ⟨_, rfl, k63_mk w p, fun i u hu => ?_⟩
  have hj : j < 6 := (List.getElem?_eq_some_iff.1 hp).1
  have hi : i < 2 := (List.getElem?_eq_some_iff.1 hu).1
  have hjj : j = 0 ∨ j = 1 ∨ j = 2 ∨ j = 3 ∨ j = 4 ∨ j = 5 := by omega
  have hii : i = 0 ∨ i = 1 := by omega
  rcases hjj with rfl | rfl | rfl | rfl | rfl | rfl <;> rcases hii with rfl | rfl <;>
    (simp [sixL] at hp; subst hp; simp at hu; subst hu; rw [Addr.add_lit]; exact (blk_cell h _).trans rfl)
/-- the six, by number -/
def sixA : Nat → Int
  | 0 => 1 | 1 => 0 | 2 => -1 | 3 => -1 | 4 => 0 | _ => 1
def sixB : Nat → Int
  | 0 => 0 | 1 => 1 | 2 => 1 | 3 => 0 | 4 => -1 | _ => -1
/-- where an operator brings the i-th of the six -/
def posN (o : Int) (i : Nat) : Nat := if o < 6 then (i + o.toNat) % 6 else (o.toNat - 6 + 1 + 6 - i) % 6
theorem posN_lt (o : Int) (i : Nat) : posN o i < 6 := by unfold posN; split <;> omega
theorem on_six : ∀ (o : Fin 12) (i : Fin 6), onP (o.1 : Int) (sixA i.1) (sixB i.1) = (sixA (posN (o.1 : Int) i.1), sixB (posN (o.1 : Int) i.1)) := by decide
theorem index_six : ∀ (i : Fin 6), axis_Point.f 10 sixL (sixA i.1) (sixB i.1) = some (i.1 : Int) := by
  intro i
  have : i.1 = 0 ∨ i.1 = 1 ∨ i.1 = 2 ∨ i.1 = 3 ∨ i.1 = 4 ∨ i.1 = 5 := by omega
  rcases this with e | e | e | e | e | e <;> rw [e] <;> simp [axis_Point.f, axis_Point.l0, sixL, rd_T63, sixA, sixB, wrap64]
abbrev SQ (w6 w8 w9 : World) (a b : Int) (W : World) : Prop := W.cell? ⟨w6.heap.size, 0, none⟩ = some (.int .i64 a) ∧ W.cell? ⟨w6.heap.size, 1, none⟩ = some (.int .i64 b) ∧ Kd.C k63 W (some ⟨w8.heap.size, 0, none⟩) sixL.length sixL ∧ Below w9.heap.size w9 W ∧ w9.heap.size ≤ W.heap.size
theorem SQ.below {w6 w8 w9 : World} {a b : Int} {W W1 : World} (h : SQ w6 w8 w9 a b W) (hb : Below W.heap.size W W1) : SQ w6 w8 w9 a b W1 := by
  obtain ⟨h0, h1, h2, h3, h4⟩ := h
  exact ⟨pw_cell_below hb h0, pw_cell_below hb h1, Kd.C_below h2 hb, h3.trans (hb.mono h4), Nat.le_trans h4 hb.size⟩
theorem on_f (o : Int) (h0 : 0 ≤ o) (h12 : o < 12) (i : Nat) (hi : i < 6) : XOpOn.f o (sixA i) (sixB i) = some (sixA (posN o i), sixB (posN o i), none) := by
  have ho : ((o.toNat : Nat) : Int) = o := Int.toNat_of_nonneg h0
  have h := on_six ⟨o.toNat, by omega⟩ ⟨i, hi⟩
  simp only [ho] at h
  have gA : ∀ j : Nat, -1 ≤ sixA j ∧ sixA j ≤ 1 := fun j => by unfold sixA; split <;> omega
  have gB : ∀ j : Nat, -1 ≤ sixB j ∧ sixB j ≤ 1 := fun j => by unfold sixB; split <;> omega
  have g1 : ∀ j : Nat, goodP (sixA j) (sixB j) := fun j => by have := gA j; have := gB j; unfold goodP; omega
  unfold XOpOn.f
  rw [if_pos ⟨h0, h12⟩, if_pos (g1 i), h, if_pos (g1 _)]
/-- a ring brought so far -/
def brN (o ring : Int) : Nat → Int
  | 0 => 0
  | j + 1 => if Go.bits .and .i64 (ring / 2 ^ j) 1 = 1 then Go.bits .or .i64 (brN o ring j) (2 ^ posN o j) else brN o ring j
set_option maxRecDepth 100000 in
set_option maxHeartbeats 4000000 in
theorem brought_any (o ring : Int) (w : World) (h0 : 0 ≤ o) (h12 : o < 12) (hG : Six w) :
    Calls Tryd.prog 57 #[.int .i64 o, .int .i64 ring] w fun e w' => e = .returned (.int .i64 (brN o ring 6)) ∧ Below w.heap.size w w' := by
  have hsix := fun W hW => XSix.calls 1 0 0 1 (-1) 1 (-1) 0 0 (-1) 1 (-1) W hW rfl
  have HG := Aside0.mk hG
  have HSIX := Aside0.mk hsix
  clear hsix hG
  generalize hX : brN o ring 6 = X
  have HX := Aside0.mk hX
  clear hX
  go_enter Tryd.func57, Tryd.ntmps57
  go_wp2_with fail
  refine (HSIX.out _ HG.out).mono ?_
  rintro e w1 ⟨rfl, hb1⟩
  have HB1 := Aside0.mk hb1
  clear hb1
  go_wp2_with fail
  go_loopw [12, 5] (fun i out wr => ∃ j : Nat, j ≤ 6 ∧ i = .int .i64 j ∧ out = .int .i64 (brN o ring j) ∧ Below w1.heap.size w1 wr) (fun i _ _ => 6 - (intOf i).toNat)
  case atStart => exact ⟨0, by omega, rfl, rfl, Below.refl _ _⟩
  case round =>
    obtain ⟨j, hj, rfl, rfl, hb⟩ := hrel
    have HBR := Aside0.mk hb
    clear hb
    have hjj : j = 0 ∨ j = 1 ∨ j = 2 ∨ j = 3 ∨ j = 4 ∨ j = 5 ∨ j = 6 := by omega
    rcases hjj with rfl | rfl | rfl | rfl | rfl | rfl | rfl
    · have hix : ∀ w : World, (Instr.index 69 (.agg #[.int .i64 1, .int .i64 0, .int .i64 0, .int .i64 1, .int .i64 (-1), .int .i64 1, .int .i64 (-1), .int .i64 0, .int .i64 0, .int .i64 (-1), .int .i64 1, .int .i64 (-1)]) (.int .i64 0)).run Tryd.prog w = .ok (.agg #[.int .i64 1, .int .i64 0]) w := fun w => by kernel_rfl
      have hon := fun W => XOpOn.calls o 1 0 _ _ _ W (on_f o h0 h12 0 (by omega))
      have hidx := index_six ⟨posN o 0, posN_lt o 0⟩
      have hk6 := posN_lt o 0
      have hbr : brN o ring 1 = if Go.bits .and .i64 (ring / 2 ^ 0) 1 = 1 then Go.bits .or .i64 (brN o ring 0) (2 ^ posN o 0) else brN o ring 0 := rfl
      have HBRN := Aside0.mk hbr
      clear hbr
      simp only at hidx
      generalize posN o 0 = k at hon hidx hk6 HBRN
      generalize sixA k = a at hon hidx
      generalize sixB k = b at hon hidx
      go_upto_region 5 with (fail)
      obtain ⟨w5, hw5, hcc5, hsz5, hB5⟩ := one_new wr #[.int .i64 1, .int .i64 0] 63
      rw [← hw5]
      have y0 : w5.cell? ⟨wr.heap.size, 0, none⟩ = some (.int .i64 1) := hcc5 0 _ rfl
      have y1 : w5.cell? ⟨wr.heap.size, 1, none⟩ = some (.int .i64 0) := hcc5 1 _ rfl
      have hzr := HBR.out.size
      have B5 := Aside0.mk (HBR.out.trans (hB5.mono (by omega)))
      clear hw5 hcc5 hB5
      go_wp2_with fail
      refine (hon _).mono ?_
      rintro e w6 ⟨rfl, hb⟩
      have hz6 := hb.size
      have B6 := Aside0.mk (B5.out.trans (hb.mono (by omega)))
      clear hb y0 y1
      go_upto_region 6 with (fail)
      obtain ⟨w7, hw7, hcc7, hsz7, hB7⟩ := one_new w6 #[.int .i64 a, .int .i64 b] 63
      rw [← hw7]
      have q0 : w7.cell? ⟨w6.heap.size, 0, none⟩ = some (.int .i64 a) := hcc7 0 _ rfl
      have q1 : w7.cell? ⟨w6.heap.size, 1, none⟩ = some (.int .i64 b) := hcc7 1 _ rfl
      have B7 := Aside0.mk (B6.out.trans (hB7.mono (by omega)))
      clear hw7 hcc7 hB7
      by_cases hbit : Go.bits .and .i64 (ring / 2 ^ 0) 1 = 1
      · have hbit2 : (Go.bits .and .i64 (ring / 2 ^ 0) 1 == 1) = true := beq_iff_eq.2 hbit
        have hbr := (HBRN.out.trans (if_pos hbit)).symm
        simp only [Int.reducePow, Int.ediv_one] at hbit hbit2
        have HBR2 := Aside0.mk hbr
        clear hbr hbit
        go_wp2_with fail
        refine (HSIX.out _ (Six.below HG.out (HB1.out.trans (B7.out.mono HB1.out.size)))).mono ?_
        rintro e w8 ⟨rfl, hb⟩
        have q0 := pw_cell_below hb q0
        have q1 := pw_cell_below hb q1
        have hz8 := hb.size
        have B8 := Aside0.mk (B7.out.trans (hb.mono (by omega)))
        clear hb
        go_upto_region 8 with (fail)
        obtain ⟨w9, hw9⟩ : ∃ w9, w9 = w8.alloc (.cells #[.int .i64 1, .int .i64 0, .int .i64 0, .int .i64 1, .int .i64 (-1), .int .i64 1, .int .i64 (-1), .int .i64 0, .int .i64 0, .int .i64 (-1), .int .i64 1, .int .i64 (-1)] 69) := ⟨_, rfl⟩
        have hC9 : Kd.C k63 w9 (some ⟨w8.heap.size, 0, none⟩) sixL.length sixL := sixL_C (by rw [hw9]; exact blk_new _ _)
        have hBz : Below w8.heap.size w8 w9 := by rw [hw9]; exact below_alloc (Below.refl _ _) _
        rw [← hw9]
        have q0 := pw_cell_below hBz q0
        have q1 := pw_cell_below hBz q1
        have hz9 := hBz.size
        have B9 := Aside0.mk (B8.out.trans (hBz.mono (by omega)))
        clear hw9 hBz
        have hin := fun W hC => axis_Point.calls 10 (some ⟨w8.heap.size, 0, none⟩) 6 sixL a b k W hC (by decide) hidx
        have HIN := Aside0.mk hin
        clear hin
        have hS : SQ w6 w8 w9 a b w9.drew := ⟨q0, q1, Kd.C_below hC9 (below_drew (Below.refl _ _)), below_drew (Below.refl _ _), Nat.le_refl _⟩
        clear hC9 q0 q1
        go_region_held3 (fun W => W.cell? ⟨w6.heap.size, 0, none⟩ = some (.int .i64 a) ∧ W.cell? ⟨w6.heap.size, 1, none⟩ = some (.int .i64 b) ∧ Kd.C k63 W (some ⟨w8.heap.size, 0, none⟩) sixL.length sixL ∧ Below w9.heap.size w9 W ∧ w9.heap.size ≤ W.heap.size)
          (assumption)
          (first | (go_at_call 93; refine (HIN.out _ (by assumption : SQ w6 w8 w9 a b _).2.2.1).mono ?_; rintro e w10 ⟨rfl, hb10⟩; have hS10 := SQ.below (by assumption : SQ w6 w8 w9 a b _) hb10; clear hb10))
        have hwr : IntKind.i64.wrap (2 ^ k) = 2 ^ k := by
          have hkk : k = 0 ∨ k = 1 ∨ k = 2 ∨ k = 3 ∨ k = 4 ∨ k = 5 := by omega
          rcases hkk with rfl | rfl | rfl | rfl | rfl | rfl <;> decide
        have B10 := Aside0.mk (B9.out.trans ((by assumption : SQ w6 w8 w9 a b w10).2.2.2.1.mono (by omega)))
        clear hS10 hS
        go_wp2
        go_roundw
        case rel => exact ⟨1, by omega, by first | rfl | go_num, by rw [← HBR2.out]; try rw [hwr], B10.out⟩
        case measure => simp [intOf]
      · have hbit2 : (Go.bits .and .i64 (ring / 2 ^ 0) 1 == 1) = false := beq_eq_false_iff_ne.2 hbit
        have hbr := (HBRN.out.trans (if_neg hbit)).symm
        have HBR2 := Aside0.mk hbr
        simp only [Int.reducePow, Int.ediv_one] at hbit hbit2
        clear hbr hbit q0 q1
        go_wp2
        go_roundw
        case rel => exact ⟨1, by omega, by first | rfl | go_num, by rw [← HBR2.out], B7.out⟩
        case measure => simp [intOf]
    · have hix : ∀ w : World, (Instr.index 69 (.agg #[.int .i64 1, .int .i64 0, .int .i64 0, .int .i64 1, .int .i64 (-1), .int .i64 1, .int .i64 (-1), .int .i64 0, .int .i64 0, .int .i64 (-1), .int .i64 1, .int .i64 (-1)]) (.int .i64 1)).run Tryd.prog w = .ok (.agg #[.int .i64 0, .int .i64 1]) w := fun w => by kernel_rfl
      have hon := fun W => XOpOn.calls o 0 1 _ _ _ W (on_f o h0 h12 1 (by omega))
      have hidx := index_six ⟨posN o 1, posN_lt o 1⟩
      have hk6 := posN_lt o 1
      have hbr : brN o ring 2 = if Go.bits .and .i64 (ring / 2 ^ 1) 1 = 1 then Go.bits .or .i64 (brN o ring 1) (2 ^ posN o 1) else brN o ring 1 := rfl
      have HBRN := Aside0.mk hbr
      clear hbr
      simp only at hidx
      generalize posN o 1 = k at hon hidx hk6 HBRN
      generalize sixA k = a at hon hidx
      generalize sixB k = b at hon hidx
      go_upto_region 5 with (fail)
      obtain ⟨w5, hw5, hcc5, hsz5, hB5⟩ := one_new wr #[.int .i64 0, .int .i64 1] 63
      rw [← hw5]
      have y0 : w5.cell? ⟨wr.heap.size, 0, none⟩ = some (.int .i64 0) := hcc5 0 _ rfl
      have y1 : w5.cell? ⟨wr.heap.size, 1, none⟩ = some (.int .i64 1) := hcc5 1 _ rfl
      have hzr := HBR.out.size
      have B5 := Aside0.mk (HBR.out.trans (hB5.mono (by omega)))
      clear hw5 hcc5 hB5
      go_wp2_with fail
      refine (hon _).mono ?_
      rintro e w6 ⟨rfl, hb⟩
      have hz6 := hb.size
      have B6 := Aside0.mk (B5.out.trans (hb.mono (by omega)))
      clear hb y0 y1
      go_upto_region 6 with (fail)
      obtain ⟨w7, hw7, hcc7, hsz7, hB7⟩ := one_new w6 #[.int .i64 a, .int .i64 b] 63
      rw [← hw7]
      have q0 : w7.cell? ⟨w6.heap.size, 0, none⟩ = some (.int .i64 a) := hcc7 0 _ rfl
      have q1 : w7.cell? ⟨w6.heap.size, 1, none⟩ = some (.int .i64 b) := hcc7 1 _ rfl
      have B7 := Aside0.mk (B6.out.trans (hB7.mono (by omega)))
      clear hw7 hcc7 hB7
      by_cases hbit : Go.bits .and .i64 (ring / 2 ^ 1) 1 = 1
      · have hbit2 : (Go.bits .and .i64 (ring / 2 ^ 1) 1 == 1) = true := beq_iff_eq.2 hbit
        have hbr := (HBRN.out.trans (if_pos hbit)).symm
        simp only [Int.reducePow, Int.ediv_one] at hbit hbit2
        have HBR2 := Aside0.mk hbr
        clear hbr hbit
        go_wp2_with fail
        refine (HSIX.out _ (Six.below HG.out (HB1.out.trans (B7.out.mono HB1.out.size)))).mono ?_
        rintro e w8 ⟨rfl, hb⟩
        have q0 := pw_cell_below hb q0
        have q1 := pw_cell_below hb q1
        have hz8 := hb.size
        have B8 := Aside0.mk (B7.out.trans (hb.mono (by omega)))
        clear hb
        go_upto_region 8 with (fail)
        obtain ⟨w9, hw9⟩ : ∃ w9, w9 = w8.alloc (.cells #[.int .i64 1, .int .i64 0, .int .i64 0, .int .i64 1, .int .i64 (-1), .int .i64 1, .int .i64 (-1), .int .i64 0, .int .i64 0, .int .i64 (-1), .int .i64 1, .int .i64 (-1)] 69) := ⟨_, rfl⟩
        have hC9 : Kd.C k63 w9 (some ⟨w8.heap.size, 0, none⟩) sixL.length sixL := sixL_C (by rw [hw9]; exact blk_new _ _)
        have hBz : Below w8.heap.size w8 w9 := by rw [hw9]; exact below_alloc (Below.refl _ _) _
        rw [← hw9]
        have q0 := pw_cell_below hBz q0
        have q1 := pw_cell_below hBz q1
        have hz9 := hBz.size
        have B9 := Aside0.mk (B8.out.trans (hBz.mono (by omega)))
        clear hw9 hBz
        have hin := fun W hC => axis_Point.calls 10 (some ⟨w8.heap.size, 0, none⟩) 6 sixL a b k W hC (by decide) hidx
        have HIN := Aside0.mk hin
        clear hin
        have hS : SQ w6 w8 w9 a b w9.drew := ⟨q0, q1, Kd.C_below hC9 (below_drew (Below.refl _ _)), below_drew (Below.refl _ _), Nat.le_refl _⟩
        clear hC9 q0 q1
        go_region_held3 (fun W => W.cell? ⟨w6.heap.size, 0, none⟩ = some (.int .i64 a) ∧ W.cell? ⟨w6.heap.size, 1, none⟩ = some (.int .i64 b) ∧ Kd.C k63 W (some ⟨w8.heap.size, 0, none⟩) sixL.length sixL ∧ Below w9.heap.size w9 W ∧ w9.heap.size ≤ W.heap.size)
          (assumption)
          (first | (go_at_call 93; refine (HIN.out _ (by assumption : SQ w6 w8 w9 a b _).2.2.1).mono ?_; rintro e w10 ⟨rfl, hb10⟩; have hS10 := SQ.below (by assumption : SQ w6 w8 w9 a b _) hb10; clear hb10))
        have hwr : IntKind.i64.wrap (2 ^ k) = 2 ^ k := by
          have hkk : k = 0 ∨ k = 1 ∨ k = 2 ∨ k = 3 ∨ k = 4 ∨ k = 5 := by omega
          rcases hkk with rfl | rfl | rfl | rfl | rfl | rfl <;> decide
        have B10 := Aside0.mk (B9.out.trans ((by assumption : SQ w6 w8 w9 a b w10).2.2.2.1.mono (by omega)))
        clear hS10 hS
        go_wp2
        go_roundw
        case rel => exact ⟨2, by omega, by first | rfl | go_num, by rw [← HBR2.out]; try rw [hwr], B10.out⟩
        case measure => simp [intOf]
      · have hbit2 : (Go.bits .and .i64 (ring / 2 ^ 1) 1 == 1) = false := beq_eq_false_iff_ne.2 hbit
        have hbr := (HBRN.out.trans (if_neg hbit)).symm
        have HBR2 := Aside0.mk hbr
        simp only [Int.reducePow, Int.ediv_one] at hbit hbit2
        clear hbr hbit q0 q1
        go_wp2
        go_roundw
        case rel => exact ⟨2, by omega, by first | rfl | go_num, by rw [← HBR2.out], B7.out⟩
        case measure => simp [intOf]
    · have hix : ∀ w : World, (Instr.index 69 (.agg #[.int .i64 1, .int .i64 0, .int .i64 0, .int .i64 1, .int .i64 (-1), .int .i64 1, .int .i64 (-1), .int .i64 0, .int .i64 0, .int .i64 (-1), .int .i64 1, .int .i64 (-1)]) (.int .i64 2)).run Tryd.prog w = .ok (.agg #[.int .i64 (-1), .int .i64 1]) w := fun w => by kernel_rfl
      have hon := fun W => XOpOn.calls o (-1) 1 _ _ _ W (on_f o h0 h12 2 (by omega))
      have hidx := index_six ⟨posN o 2, posN_lt o 2⟩
      have hk6 := posN_lt o 2
      have hbr : brN o ring 3 = if Go.bits .and .i64 (ring / 2 ^ 2) 1 = 1 then Go.bits .or .i64 (brN o ring 2) (2 ^ posN o 2) else brN o ring 2 := rfl
      have HBRN := Aside0.mk hbr
      clear hbr
      simp only at hidx
      generalize posN o 2 = k at hon hidx hk6 HBRN
      generalize sixA k = a at hon hidx
      generalize sixB k = b at hon hidx
      go_upto_region 5 with (fail)
      obtain ⟨w5, hw5, hcc5, hsz5, hB5⟩ := one_new wr #[.int .i64 (-1), .int .i64 1] 63
      rw [← hw5]
      have y0 : w5.cell? ⟨wr.heap.size, 0, none⟩ = some (.int .i64 (-1)) := hcc5 0 _ rfl
      have y1 : w5.cell? ⟨wr.heap.size, 1, none⟩ = some (.int .i64 1) := hcc5 1 _ rfl
      have hzr := HBR.out.size
      have B5 := Aside0.mk (HBR.out.trans (hB5.mono (by omega)))
      clear hw5 hcc5 hB5
      go_wp2_with fail
      refine (hon _).mono ?_
      rintro e w6 ⟨rfl, hb⟩
      have hz6 := hb.size
      have B6 := Aside0.mk (B5.out.trans (hb.mono (by omega)))
      clear hb y0 y1
      go_upto_region 6 with (fail)
      obtain ⟨w7, hw7, hcc7, hsz7, hB7⟩ := one_new w6 #[.int .i64 a, .int .i64 b] 63
      rw [← hw7]
      have q0 : w7.cell? ⟨w6.heap.size, 0, none⟩ = some (.int .i64 a) := hcc7 0 _ rfl
      have q1 : w7.cell? ⟨w6.heap.size, 1, none⟩ = some (.int .i64 b) := hcc7 1 _ rfl
      have B7 := Aside0.mk (B6.out.trans (hB7.mono (by omega)))
      clear hw7 hcc7 hB7
      by_cases hbit : Go.bits .and .i64 (ring / 2 ^ 2) 1 = 1
      · have hbit2 : (Go.bits .and .i64 (ring / 2 ^ 2) 1 == 1) = true := beq_iff_eq.2 hbit
        have hbr := (HBRN.out.trans (if_pos hbit)).symm
        simp only [Int.reducePow, Int.ediv_one] at hbit hbit2
        have HBR2 := Aside0.mk hbr
        clear hbr hbit
        go_wp2_with fail
        refine (HSIX.out _ (Six.below HG.out (HB1.out.trans (B7.out.mono HB1.out.size)))).mono ?_
        rintro e w8 ⟨rfl, hb⟩
        have q0 := pw_cell_below hb q0
        have q1 := pw_cell_below hb q1
        have hz8 := hb.size
        have B8 := Aside0.mk (B7.out.trans (hb.mono (by omega)))
        clear hb
        go_upto_region 8 with (fail)
        obtain ⟨w9, hw9⟩ : ∃ w9, w9 = w8.alloc (.cells #[.int .i64 1, .int .i64 0, .int .i64 0, .int .i64 1, .int .i64 (-1), .int .i64 1, .int .i64 (-1), .int .i64 0, .int .i64 0, .int .i64 (-1), .int .i64 1, .int .i64 (-1)] 69) := ⟨_, rfl⟩
        have hC9 : Kd.C k63 w9 (some ⟨w8.heap.size, 0, none⟩) sixL.length sixL := sixL_C (by rw [hw9]; exact blk_new _ _)
        have hBz : Below w8.heap.size w8 w9 := by rw [hw9]; exact below_alloc (Below.refl _ _) _
        rw [← hw9]
        have q0 := pw_cell_below hBz q0
        have q1 := pw_cell_below hBz q1
        have hz9 := hBz.size
        have B9 := Aside0.mk (B8.out.trans (hBz.mono (by omega)))
        clear hw9 hBz
        have hin := fun W hC => axis_Point.calls 10 (some ⟨w8.heap.size, 0, none⟩) 6 sixL a b k W hC (by decide) hidx
        have HIN := Aside0.mk hin
        clear hin
        have hS : SQ w6 w8 w9 a b w9.drew := ⟨q0, q1, Kd.C_below hC9 (below_drew (Below.refl _ _)), below_drew (Below.refl _ _), Nat.le_refl _⟩
        clear hC9 q0 q1
        go_region_held3 (fun W => W.cell? ⟨w6.heap.size, 0, none⟩ = some (.int .i64 a) ∧ W.cell? ⟨w6.heap.size, 1, none⟩ = some (.int .i64 b) ∧ Kd.C k63 W (some ⟨w8.heap.size, 0, none⟩) sixL.length sixL ∧ Below w9.heap.size w9 W ∧ w9.heap.size ≤ W.heap.size)
          (assumption)
          (first | (go_at_call 93; refine (HIN.out _ (by assumption : SQ w6 w8 w9 a b _).2.2.1).mono ?_; rintro e w10 ⟨rfl, hb10⟩; have hS10 := SQ.below (by assumption : SQ w6 w8 w9 a b _) hb10; clear hb10))
        have hwr : IntKind.i64.wrap (2 ^ k) = 2 ^ k := by
          have hkk : k = 0 ∨ k = 1 ∨ k = 2 ∨ k = 3 ∨ k = 4 ∨ k = 5 := by omega
          rcases hkk with rfl | rfl | rfl | rfl | rfl | rfl <;> decide
        have B10 := Aside0.mk (B9.out.trans ((by assumption : SQ w6 w8 w9 a b w10).2.2.2.1.mono (by omega)))
        clear hS10 hS
        go_wp2
        go_roundw
        case rel => exact ⟨3, by omega, by first | rfl | go_num, by rw [← HBR2.out]; try rw [hwr], B10.out⟩
        case measure => simp [intOf]
      · have hbit2 : (Go.bits .and .i64 (ring / 2 ^ 2) 1 == 1) = false := beq_eq_false_iff_ne.2 hbit
        have hbr := (HBRN.out.trans (if_neg hbit)).symm
        have HBR2 := Aside0.mk hbr
        simp only [Int.reducePow, Int.ediv_one] at hbit hbit2
        clear hbr hbit q0 q1
        go_wp2
        go_roundw
        case rel => exact ⟨3, by omega, by first | rfl | go_num, by rw [← HBR2.out], B7.out⟩
        case measure => simp [intOf]
    · have hix : ∀ w : World, (Instr.index 69 (.agg #[.int .i64 1, .int .i64 0, .int .i64 0, .int .i64 1, .int .i64 (-1), .int .i64 1, .int .i64 (-1), .int .i64 0, .int .i64 0, .int .i64 (-1), .int .i64 1, .int .i64 (-1)]) (.int .i64 3)).run Tryd.prog w = .ok (.agg #[.int .i64 (-1), .int .i64 0]) w := fun w => by kernel_rfl
      have hon := fun W => XOpOn.calls o (-1) 0 _ _ _ W (on_f o h0 h12 3 (by omega))
      have hidx := index_six ⟨posN o 3, posN_lt o 3⟩
      have hk6 := posN_lt o 3
      have hbr : brN o ring 4 = if Go.bits .and .i64 (ring / 2 ^ 3) 1 = 1 then Go.bits .or .i64 (brN o ring 3) (2 ^ posN o 3) else brN o ring 3 := rfl
      have HBRN := Aside0.mk hbr
      clear hbr
      simp only at hidx
      generalize posN o 3 = k at hon hidx hk6 HBRN
      generalize sixA k = a at hon hidx
      generalize sixB k = b at hon hidx
      go_upto_region 5 with (fail)
      obtain ⟨w5, hw5, hcc5, hsz5, hB5⟩ := one_new wr #[.int .i64 (-1), .int .i64 0] 63
      rw [← hw5]
      have y0 : w5.cell? ⟨wr.heap.size, 0, none⟩ = some (.int .i64 (-1)) := hcc5 0 _ rfl
      have y1 : w5.cell? ⟨wr.heap.size, 1, none⟩ = some (.int .i64 0) := hcc5 1 _ rfl
      have hzr := HBR.out.size
      have B5 := Aside0.mk (HBR.out.trans (hB5.mono (by omega)))
      clear hw5 hcc5 hB5
      go_wp2_with fail
      refine (hon _).mono ?_
      rintro e w6 ⟨rfl, hb⟩
      have hz6 := hb.size
      have B6 := Aside0.mk (B5.out.trans (hb.mono (by omega)))
      clear hb y0 y1
      go_upto_region 6 with (fail)
      obtain ⟨w7, hw7, hcc7, hsz7, hB7⟩ := one_new w6 #[.int .i64 a, .int .i64 b] 63
      rw [← hw7]
      have q0 : w7.cell? ⟨w6.heap.size, 0, none⟩ = some (.int .i64 a) := hcc7 0 _ rfl
      have q1 : w7.cell? ⟨w6.heap.size, 1, none⟩ = some (.int .i64 b) := hcc7 1 _ rfl
      have B7 := Aside0.mk (B6.out.trans (hB7.mono (by omega)))
      clear hw7 hcc7 hB7
      by_cases hbit : Go.bits .and .i64 (ring / 2 ^ 3) 1 = 1
      · have hbit2 : (Go.bits .and .i64 (ring / 2 ^ 3) 1 == 1) = true := beq_iff_eq.2 hbit
        have hbr := (HBRN.out.trans (if_pos hbit)).symm
        simp only [Int.reducePow, Int.ediv_one] at hbit hbit2
        have HBR2 := Aside0.mk hbr
        clear hbr hbit
        go_wp2_with fail
        refine (HSIX.out _ (Six.below HG.out (HB1.out.trans (B7.out.mono HB1.out.size)))).mono ?_
        rintro e w8 ⟨rfl, hb⟩
        have q0 := pw_cell_below hb q0
        have q1 := pw_cell_below hb q1
        have hz8 := hb.size
        have B8 := Aside0.mk (B7.out.trans (hb.mono (by omega)))
        clear hb
        go_upto_region 8 with (fail)
        obtain ⟨w9, hw9⟩ : ∃ w9, w9 = w8.alloc (.cells #[.int .i64 1, .int .i64 0, .int .i64 0, .int .i64 1, .int .i64 (-1), .int .i64 1, .int .i64 (-1), .int .i64 0, .int .i64 0, .int .i64 (-1), .int .i64 1, .int .i64 (-1)] 69) := ⟨_, rfl⟩
        have hC9 : Kd.C k63 w9 (some ⟨w8.heap.size, 0, none⟩) sixL.length sixL := sixL_C (by rw [hw9]; exact blk_new _ _)
        have hBz : Below w8.heap.size w8 w9 := by rw [hw9]; exact below_alloc (Below.refl _ _) _
        rw [← hw9]
        have q0 := pw_cell_below hBz q0
        have q1 := pw_cell_below hBz q1
        have hz9 := hBz.size
        have B9 := Aside0.mk (B8.out.trans (hBz.mono (by omega)))
        clear hw9 hBz
        have hin := fun W hC => axis_Point.calls 10 (some ⟨w8.heap.size, 0, none⟩) 6 sixL a b k W hC (by decide) hidx
        have HIN := Aside0.mk hin
        clear hin
        have hS : SQ w6 w8 w9 a b w9.drew := ⟨q0, q1, Kd.C_below hC9 (below_drew (Below.refl _ _)), below_drew (Below.refl _ _), Nat.le_refl _⟩
        clear hC9 q0 q1
        go_region_held3 (fun W => W.cell? ⟨w6.heap.size, 0, none⟩ = some (.int .i64 a) ∧ W.cell? ⟨w6.heap.size, 1, none⟩ = some (.int .i64 b) ∧ Kd.C k63 W (some ⟨w8.heap.size, 0, none⟩) sixL.length sixL ∧ Below w9.heap.size w9 W ∧ w9.heap.size ≤ W.heap.size)
          (assumption)
          (first | (go_at_call 93; refine (HIN.out _ (by assumption : SQ w6 w8 w9 a b _).2.2.1).mono ?_; rintro e w10 ⟨rfl, hb10⟩; have hS10 := SQ.below (by assumption : SQ w6 w8 w9 a b _) hb10; clear hb10))
        have hwr : IntKind.i64.wrap (2 ^ k) = 2 ^ k := by
          have hkk : k = 0 ∨ k = 1 ∨ k = 2 ∨ k = 3 ∨ k = 4 ∨ k = 5 := by omega
          rcases hkk with rfl | rfl | rfl | rfl | rfl | rfl <;> decide
        have B10 := Aside0.mk (B9.out.trans ((by assumption : SQ w6 w8 w9 a b w10).2.2.2.1.mono (by omega)))
        clear hS10 hS
        go_wp2
        go_roundw
        case rel => exact ⟨4, by omega, by first | rfl | go_num, by rw [← HBR2.out]; try rw [hwr], B10.out⟩
        case measure => simp [intOf]
      · have hbit2 : (Go.bits .and .i64 (ring / 2 ^ 3) 1 == 1) = false := beq_eq_false_iff_ne.2 hbit
        have hbr := (HBRN.out.trans (if_neg hbit)).symm
        have HBR2 := Aside0.mk hbr
        simp only [Int.reducePow, Int.ediv_one] at hbit hbit2
        clear hbr hbit q0 q1
        go_wp2
        go_roundw
        case rel => exact ⟨4, by omega, by first | rfl | go_num, by rw [← HBR2.out], B7.out⟩
        case measure => simp [intOf]
    · have hix : ∀ w : World, (Instr.index 69 (.agg #[.int .i64 1, .int .i64 0, .int .i64 0, .int .i64 1, .int .i64 (-1), .int .i64 1, .int .i64 (-1), .int .i64 0, .int .i64 0, .int .i64 (-1), .int .i64 1, .int .i64 (-1)]) (.int .i64 4)).run Tryd.prog w = .ok (.agg #[.int .i64 0, .int .i64 (-1)]) w := fun w => by kernel_rfl
      have hon := fun W => XOpOn.calls o 0 (-1) _ _ _ W (on_f o h0 h12 4 (by omega))
      have hidx := index_six ⟨posN o 4, posN_lt o 4⟩
      have hk6 := posN_lt o 4
      have hbr : brN o ring 5 = if Go.bits .and .i64 (ring / 2 ^ 4) 1 = 1 then Go.bits .or .i64 (brN o ring 4) (2 ^ posN o 4) else brN o ring 4 := rfl
      have HBRN := Aside0.mk hbr
      clear hbr
      simp only at hidx
      generalize posN o 4 = k at hon hidx hk6 HBRN
      generalize sixA k = a at hon hidx
      generalize sixB k = b at hon hidx
      go_upto_region 5 with (fail)
      obtain ⟨w5, hw5, hcc5, hsz5, hB5⟩ := one_new wr #[.int .i64 0, .int .i64 (-1)] 63
      rw [← hw5]
      have y0 : w5.cell? ⟨wr.heap.size, 0, none⟩ = some (.int .i64 0) := hcc5 0 _ rfl
      have y1 : w5.cell? ⟨wr.heap.size, 1, none⟩ = some (.int .i64 (-1)) := hcc5 1 _ rfl
      have hzr := HBR.out.size
      have B5 := Aside0.mk (HBR.out.trans (hB5.mono (by omega)))
      clear hw5 hcc5 hB5
      go_wp2_with fail
      refine (hon _).mono ?_
      rintro e w6 ⟨rfl, hb⟩
      have hz6 := hb.size
      have B6 := Aside0.mk (B5.out.trans (hb.mono (by omega)))
      clear hb y0 y1
      go_upto_region 6 with (fail)
      obtain ⟨w7, hw7, hcc7, hsz7, hB7⟩ := one_new w6 #[.int .i64 a, .int .i64 b] 63
      rw [← hw7]
      have q0 : w7.cell? ⟨w6.heap.size, 0, none⟩ = some (.int .i64 a) := hcc7 0 _ rfl
      have q1 : w7.cell? ⟨w6.heap.size, 1, none⟩ = some (.int .i64 b) := hcc7 1 _ rfl
      have B7 := Aside0.mk (B6.out.trans (hB7.mono (by omega)))
      clear hw7 hcc7 hB7
      by_cases hbit : Go.bits .and .i64 (ring / 2 ^ 4) 1 = 1
      · have hbit2 : (Go.bits .and .i64 (ring / 2 ^ 4) 1 == 1) = true := beq_iff_eq.2 hbit
        have hbr := (HBRN.out.trans (if_pos hbit)).symm
        simp only [Int.reducePow, Int.ediv_one] at hbit hbit2
        have HBR2 := Aside0.mk hbr
        clear hbr hbit
        go_wp2_with fail
        refine (HSIX.out _ (Six.below HG.out (HB1.out.trans (B7.out.mono HB1.out.size)))).mono ?_
        rintro e w8 ⟨rfl, hb⟩
        have q0 := pw_cell_below hb q0
        have q1 := pw_cell_below hb q1
        have hz8 := hb.size
        have B8 := Aside0.mk (B7.out.trans (hb.mono (by omega)))
        clear hb
        go_upto_region 8 with (fail)
        obtain ⟨w9, hw9⟩ : ∃ w9, w9 = w8.alloc (.cells #[.int .i64 1, .int .i64 0, .int .i64 0, .int .i64 1, .int .i64 (-1), .int .i64 1, .int .i64 (-1), .int .i64 0, .int .i64 0, .int .i64 (-1), .int .i64 1, .int .i64 (-1)] 69) := ⟨_, rfl⟩
        have hC9 : Kd.C k63 w9 (some ⟨w8.heap.size, 0, none⟩) sixL.length sixL := sixL_C (by rw [hw9]; exact blk_new _ _)
        have hBz : Below w8.heap.size w8 w9 := by rw [hw9]; exact below_alloc (Below.refl _ _) _
        rw [← hw9]
        have q0 := pw_cell_below hBz q0
        have q1 := pw_cell_below hBz q1
        have hz9 := hBz.size
        have B9 := Aside0.mk (B8.out.trans (hBz.mono (by omega)))
        clear hw9 hBz
        have hin := fun W hC => axis_Point.calls 10 (some ⟨w8.heap.size, 0, none⟩) 6 sixL a b k W hC (by decide) hidx
        have HIN := Aside0.mk hin
        clear hin
        have hS : SQ w6 w8 w9 a b w9.drew := ⟨q0, q1, Kd.C_below hC9 (below_drew (Below.refl _ _)), below_drew (Below.refl _ _), Nat.le_refl _⟩
        clear hC9 q0 q1
        go_region_held3 (fun W => W.cell? ⟨w6.heap.size, 0, none⟩ = some (.int .i64 a) ∧ W.cell? ⟨w6.heap.size, 1, none⟩ = some (.int .i64 b) ∧ Kd.C k63 W (some ⟨w8.heap.size, 0, none⟩) sixL.length sixL ∧ Below w9.heap.size w9 W ∧ w9.heap.size ≤ W.heap.size)
          (assumption)
          (first | (go_at_call 93; refine (HIN.out _ (by assumption : SQ w6 w8 w9 a b _).2.2.1).mono ?_; rintro e w10 ⟨rfl, hb10⟩; have hS10 := SQ.below (by assumption : SQ w6 w8 w9 a b _) hb10; clear hb10))
        have hwr : IntKind.i64.wrap (2 ^ k) = 2 ^ k := by
          have hkk : k = 0 ∨ k = 1 ∨ k = 2 ∨ k = 3 ∨ k = 4 ∨ k = 5 := by omega
          rcases hkk with rfl | rfl | rfl | rfl | rfl | rfl <;> decide
        have B10 := Aside0.mk (B9.out.trans ((by assumption : SQ w6 w8 w9 a b w10).2.2.2.1.mono (by omega)))
        clear hS10 hS
        go_wp2
        go_roundw
        case rel => exact ⟨5, by omega, by first | rfl | go_num, by rw [← HBR2.out]; try rw [hwr], B10.out⟩
        case measure => simp [intOf]
      · have hbit2 : (Go.bits .and .i64 (ring / 2 ^ 4) 1 == 1) = false := beq_eq_false_iff_ne.2 hbit
        have hbr := (HBRN.out.trans (if_neg hbit)).symm
        have HBR2 := Aside0.mk hbr
        simp only [Int.reducePow, Int.ediv_one] at hbit hbit2
        clear hbr hbit q0 q1
        go_wp2
        go_roundw
        case rel => exact ⟨5, by omega, by first | rfl | go_num, by rw [← HBR2.out], B7.out⟩
        case measure => simp [intOf]
    · have hix : ∀ w : World, (Instr.index 69 (.agg #[.int .i64 1, .int .i64 0, .int .i64 0, .int .i64 1, .int .i64 (-1), .int .i64 1, .int .i64 (-1), .int .i64 0, .int .i64 0, .int .i64 (-1), .int .i64 1, .int .i64 (-1)]) (.int .i64 5)).run Tryd.prog w = .ok (.agg #[.int .i64 1, .int .i64 (-1)]) w := fun w => by kernel_rfl
      have hon := fun W => XOpOn.calls o 1 (-1) _ _ _ W (on_f o h0 h12 5 (by omega))
      have hidx := index_six ⟨posN o 5, posN_lt o 5⟩
      have hk6 := posN_lt o 5
      have hbr : brN o ring 6 = if Go.bits .and .i64 (ring / 2 ^ 5) 1 = 1 then Go.bits .or .i64 (brN o ring 5) (2 ^ posN o 5) else brN o ring 5 := rfl
      have HBRN := Aside0.mk hbr
      clear hbr
      simp only at hidx
      generalize posN o 5 = k at hon hidx hk6 HBRN
      generalize sixA k = a at hon hidx
      generalize sixB k = b at hon hidx
      go_upto_region 5 with (fail)
      obtain ⟨w5, hw5, hcc5, hsz5, hB5⟩ := one_new wr #[.int .i64 1, .int .i64 (-1)] 63
      rw [← hw5]
      have y0 : w5.cell? ⟨wr.heap.size, 0, none⟩ = some (.int .i64 1) := hcc5 0 _ rfl
      have y1 : w5.cell? ⟨wr.heap.size, 1, none⟩ = some (.int .i64 (-1)) := hcc5 1 _ rfl
      have hzr := HBR.out.size
      have B5 := Aside0.mk (HBR.out.trans (hB5.mono (by omega)))
      clear hw5 hcc5 hB5
      go_wp2_with fail
      refine (hon _).mono ?_
      rintro e w6 ⟨rfl, hb⟩
      have hz6 := hb.size
      have B6 := Aside0.mk (B5.out.trans (hb.mono (by omega)))
      clear hb y0 y1
      go_upto_region 6 with (fail)
      obtain ⟨w7, hw7, hcc7, hsz7, hB7⟩ := one_new w6 #[.int .i64 a, .int .i64 b] 63
      rw [← hw7]
      have q0 : w7.cell? ⟨w6.heap.size, 0, none⟩ = some (.int .i64 a) := hcc7 0 _ rfl
      have q1 : w7.cell? ⟨w6.heap.size, 1, none⟩ = some (.int .i64 b) := hcc7 1 _ rfl
      have B7 := Aside0.mk (B6.out.trans (hB7.mono (by omega)))
      clear hw7 hcc7 hB7
      by_cases hbit : Go.bits .and .i64 (ring / 2 ^ 5) 1 = 1
      · have hbit2 : (Go.bits .and .i64 (ring / 2 ^ 5) 1 == 1) = true := beq_iff_eq.2 hbit
        have hbr := (HBRN.out.trans (if_pos hbit)).symm
        simp only [Int.reducePow, Int.ediv_one] at hbit hbit2
        have HBR2 := Aside0.mk hbr
        clear hbr hbit
        go_wp2_with fail
        refine (HSIX.out _ (Six.below HG.out (HB1.out.trans (B7.out.mono HB1.out.size)))).mono ?_
        rintro e w8 ⟨rfl, hb⟩
        have q0 := pw_cell_below hb q0
        have q1 := pw_cell_below hb q1
        have hz8 := hb.size
        have B8 := Aside0.mk (B7.out.trans (hb.mono (by omega)))
        clear hb
        go_upto_region 8 with (fail)
        obtain ⟨w9, hw9⟩ : ∃ w9, w9 = w8.alloc (.cells #[.int .i64 1, .int .i64 0, .int .i64 0, .int .i64 1, .int .i64 (-1), .int .i64 1, .int .i64 (-1), .int .i64 0, .int .i64 0, .int .i64 (-1), .int .i64 1, .int .i64 (-1)] 69) := ⟨_, rfl⟩
        have hC9 : Kd.C k63 w9 (some ⟨w8.heap.size, 0, none⟩) sixL.length sixL := sixL_C (by rw [hw9]; exact blk_new _ _)
        have hBz : Below w8.heap.size w8 w9 := by rw [hw9]; exact below_alloc (Below.refl _ _) _
        rw [← hw9]
        have q0 := pw_cell_below hBz q0
        have q1 := pw_cell_below hBz q1
        have hz9 := hBz.size
        have B9 := Aside0.mk (B8.out.trans (hBz.mono (by omega)))
        clear hw9 hBz
        have hin := fun W hC => axis_Point.calls 10 (some ⟨w8.heap.size, 0, none⟩) 6 sixL a b k W hC (by decide) hidx
        have HIN := Aside0.mk hin
        clear hin
        have hS : SQ w6 w8 w9 a b w9.drew := ⟨q0, q1, Kd.C_below hC9 (below_drew (Below.refl _ _)), below_drew (Below.refl _ _), Nat.le_refl _⟩
        clear hC9 q0 q1
        go_region_held3 (fun W => W.cell? ⟨w6.heap.size, 0, none⟩ = some (.int .i64 a) ∧ W.cell? ⟨w6.heap.size, 1, none⟩ = some (.int .i64 b) ∧ Kd.C k63 W (some ⟨w8.heap.size, 0, none⟩) sixL.length sixL ∧ Below w9.heap.size w9 W ∧ w9.heap.size ≤ W.heap.size)
          (assumption)
          (first | (go_at_call 93; refine (HIN.out _ (by assumption : SQ w6 w8 w9 a b _).2.2.1).mono ?_; rintro e w10 ⟨rfl, hb10⟩; have hS10 := SQ.below (by assumption : SQ w6 w8 w9 a b _) hb10; clear hb10))
        have hwr : IntKind.i64.wrap (2 ^ k) = 2 ^ k := by
          have hkk : k = 0 ∨ k = 1 ∨ k = 2 ∨ k = 3 ∨ k = 4 ∨ k = 5 := by omega
          rcases hkk with rfl | rfl | rfl | rfl | rfl | rfl <;> decide
        have B10 := Aside0.mk (B9.out.trans ((by assumption : SQ w6 w8 w9 a b w10).2.2.2.1.mono (by omega)))
        clear hS10 hS
        go_wp2
        go_roundw
        case rel => exact ⟨6, by omega, by first | rfl | go_num, by rw [← HBR2.out]; try rw [hwr], B10.out⟩
        case measure => simp [intOf]
      · have hbit2 : (Go.bits .and .i64 (ring / 2 ^ 5) 1 == 1) = false := beq_eq_false_iff_ne.2 hbit
        have hbr := (HBRN.out.trans (if_neg hbit)).symm
        have HBR2 := Aside0.mk hbr
        simp only [Int.reducePow, Int.ediv_one] at hbit hbit2
        clear hbr hbit q0 q1
        go_wp2
        go_roundw
        case rel => exact ⟨6, by omega, by first | rfl | go_num, by rw [← HBR2.out], B7.out⟩
        case measure => simp [intOf]
    · have hX : X = brN o ring 6 := HX.out.symm
      clear HX
      subst hX
      go_wp2
      go_ret
      exact ⟨rfl, HB1.out.trans (HBR.out.mono HB1.out.size)⟩
def XBrought.f (o ring : Int) : Option Int := if 0 ≤ o ∧ o < 12 then some (brN o ring 6) else none
theorem XBrought.calls (a0 : Int) (a1 : Int) (r : Int) (w : World) (hGSix : Six w) (h : XBrought.f a0 a1 = some r) :
    Calls Tryd.prog 57 #[.int .i64 a0, .int .i64 a1] w fun e w' => e = .returned (.int .i64 r) ∧ Below w.heap.size w w' := by
  unfold XBrought.f at h
  by_cases ho : 0 ≤ a0 ∧ a0 < 12
  · rw [if_pos ho] at h
    obtain rfl := Option.some.inj h
    exact brought_any a0 a1 w ho.1 ho.2 hGSix
  · rw [if_neg ho] at h
    cases h
end Go.Proofs.YtaeenefdbahfoaaDoor
namespace Go.Proofs.YtaeenefdbahfoaaDoor
set_option linter.unusedSimpArgs false
set_option linter.unusedVariables false
open Go.RowKit Go.Proofs.YtaeenefdbahfoaaDoorW.PrintWords Go.Proofs.YtaeenefdbahfoaaDoorW.PrintLast Go.Proofs.YtaeenefdbahfoaaDoorW.PrintMore
open H
open Go.RowKit
set_option maxRecDepth 100000 in
theorem next_out (l b0 b1 s0 s1 half n : Int) (live : Bool) (w : World) (ho : half < 0 ∨ 1 < half ∨ n < 0 ∨ 63 < n) :
    Calls Tryd.prog 58 #[.agg #[.int .i64 l, .int .u64 b0, .int .u64 b1, .int .u64 s0, .int .u64 s1], .int .i64 half, .bool live, .int .i64 n] w fun e w' => e = .returned (.bool false) ∧ Below w.heap.size w w' := by
  go_enter Tryd.func58, Tryd.ntmps58
  by_cases h1 : half < 0
  · have d1 : decide (half < 0) = true := decide_eq_true h1
    go_wp2
    go_ret
    exact ⟨rfl, (by with_reducible repeat (first | apply below_alloc | apply pw_below_drewN | apply below_drew | refine bset ?_ _ _ (by omega) _ | exact Below.refl _ _))⟩
  · by_cases h2 : 1 < half
    · go_wp2
      go_ret
      exact ⟨rfl, (by with_reducible repeat (first | apply below_alloc | apply pw_below_drewN | apply below_drew | refine bset ?_ _ _ (by omega) _ | exact Below.refl _ _))⟩
    · by_cases h3 : n < 0
      · go_wp2
        go_ret
        exact ⟨rfl, (by with_reducible repeat (first | apply below_alloc | apply pw_below_drewN | apply below_drew | refine bset ?_ _ _ (by omega) _ | exact Below.refl _ _))⟩
      · have h4 : 63 < n := by omega
        go_wp2
        go_ret
        exact ⟨rfl, (by with_reducible repeat (first | apply below_alloc | apply pw_below_drewN | apply below_drew | refine bset ?_ _ _ (by omega) _ | exact Below.refl _ _))⟩
/-- the bit of a number -/
def nxB (x n : Int) : Bool := Go.bits .and .u64 (x / 2 ^ n.toNat) 1 == 1
set_option maxRecDepth 100000 in
theorem next_0true (l b0 b1 s0 s1 n : Int) (w : World) (h0 : 0 ≤ n) (h1 : n ≤ 63) :
    Calls Tryd.prog 58 #[.agg #[.int .i64 l, .int .u64 b0, .int .u64 b1, .int .u64 s0, .int .u64 s1], .int .i64 0, .bool true, .int .i64 n] w fun e w' => e = .returned (.bool (nxB s0 n)) ∧ Below w.heap.size w w' := by
  have h2 : ¬ n < 0 := by omega
  have h3 : ¬ 63 < n := by omega
  go_enter Tryd.func58, Tryd.ntmps58
  go_wp2
  go_ret
  exact ⟨rfl, (by with_reducible repeat (first | apply below_alloc | apply pw_below_drewN | apply below_drew | refine bset ?_ _ _ (by omega) _ | exact Below.refl _ _))⟩
set_option maxRecDepth 100000 in
theorem next_1true (l b0 b1 s0 s1 n : Int) (w : World) (h0 : 0 ≤ n) (h1 : n ≤ 63) :
    Calls Tryd.prog 58 #[.agg #[.int .i64 l, .int .u64 b0, .int .u64 b1, .int .u64 s0, .int .u64 s1], .int .i64 1, .bool true, .int .i64 n] w fun e w' => e = .returned (.bool (nxB s1 n)) ∧ Below w.heap.size w w' := by
  have h2 : ¬ n < 0 := by omega
  have h3 : ¬ 63 < n := by omega
  go_enter Tryd.func58, Tryd.ntmps58
  go_wp2
  go_ret
  exact ⟨rfl, (by with_reducible repeat (first | apply below_alloc | apply pw_below_drewN | apply below_drew | refine bset ?_ _ _ (by omega) _ | exact Below.refl _ _))⟩
set_option maxRecDepth 100000 in
theorem next_0false (l b0 b1 s0 s1 n : Int) (w : World) (h0 : 0 ≤ n) (h1 : n ≤ 63) :
    Calls Tryd.prog 58 #[.agg #[.int .i64 l, .int .u64 b0, .int .u64 b1, .int .u64 s0, .int .u64 s1], .int .i64 0, .bool false, .int .i64 n] w fun e w' => e = .returned (.bool (nxB b0 n)) ∧ Below w.heap.size w w' := by
  have h2 : ¬ n < 0 := by omega
  have h3 : ¬ 63 < n := by omega
  go_enter Tryd.func58, Tryd.ntmps58
  go_wp2
  go_ret
  exact ⟨rfl, (by with_reducible repeat (first | apply below_alloc | apply pw_below_drewN | apply below_drew | refine bset ?_ _ _ (by omega) _ | exact Below.refl _ _))⟩
set_option maxRecDepth 100000 in
theorem next_1false (l b0 b1 s0 s1 n : Int) (w : World) (h0 : 0 ≤ n) (h1 : n ≤ 63) :
    Calls Tryd.prog 58 #[.agg #[.int .i64 l, .int .u64 b0, .int .u64 b1, .int .u64 s0, .int .u64 s1], .int .i64 1, .bool false, .int .i64 n] w fun e w' => e = .returned (.bool (nxB b1 n)) ∧ Below w.heap.size w w' := by
  have h2 : ¬ n < 0 := by omega
  have h3 : ¬ 63 < n := by omega
  go_enter Tryd.func58, Tryd.ntmps58
  go_wp2
  go_ret
  exact ⟨rfl, (by with_reducible repeat (first | apply below_alloc | apply pw_below_drewN | apply below_drew | refine bset ?_ _ _ (by omega) _ | exact Below.refl _ _))⟩
def XNext.f (_l b0 b1 s0 s1 half : Int) (live : Bool) (n : Int) : Option Bool := some (if half < 0 ∨ 1 < half ∨ n < 0 ∨ 63 < n then false else nxB (if live = true then (if half = 0 then s0 else s1) else (if half = 0 then b0 else b1)) n)
theorem XNext.calls (a0_0 : Int) (a0_1 : Int) (a0_2 : Int) (a0_3 : Int) (a0_4 : Int) (a1 : Int) (a2 : Bool) (a3 : Int) (r : Bool) (w : World) (h : XNext.f a0_0 a0_1 a0_2 a0_3 a0_4 a1 a2 a3 = some r) :
    Calls Tryd.prog 58 #[.agg #[.int .i64 a0_0, .int .u64 a0_1, .int .u64 a0_2, .int .u64 a0_3, .int .u64 a0_4], .int .i64 a1, .bool a2, .int .i64 a3] w fun e w' => e = .returned (.bool r) ∧ Below w.heap.size w w' := by
  unfold XNext.f at h
  obtain rfl := Option.some.inj h
  by_cases ho : a1 < 0 ∨ 1 < a1 ∨ a3 < 0 ∨ 63 < a3
  · rw [if_pos ho]
    exact next_out _ _ _ _ _ _ _ _ w ho
  · rw [if_neg ho]
    have h1 : a1 = 0 ∨ a1 = 1 := by omega
    rcases h1 with rfl | rfl
    · cases a2
      · exact next_0false _ _ _ _ _ _ w (by omega) (by omega)
      · exact next_0true _ _ _ _ _ _ w (by omega) (by omega)
    · cases a2
      · exact next_1false _ _ _ _ _ _ w (by omega) (by omega)
      · exact next_1true _ _ _ _ _ _ w (by omega) (by omega)
theorem tgood (l : Int) (w : World) : Calls Tryd.prog 80 #[.int .i64 l] w fun e w' => e = .returned (.bool (decide (1 ≤ l ∧ l ≤ 3))) ∧ Below w.heap.size w w' :=
  (lgood_any l w).mono fun _ _ h => ⟨h.1, h.2 ▸ Below.refl _ _⟩
theorem thalves (l : Int) (w : World) : Calls Tryd.prog 87 #[.int .i64 l] w fun e w' => e = .returned (.int .i64 (halvesR l)) ∧ Below w.heap.size w w' :=
  (halves_any l w).mono fun _ _ h => ⟨h.1, h.2 ▸ Below.refl _ _⟩
theorem tmost (l m : Int) (h : table_most.f l = some m) (w : World) : Calls Tryd.prog 86 #[.int .i64 l] w fun e w' => e = .returned (.int .i64 m) ∧ Below w.heap.size w w' :=
  (table_most.calls l m w h).mono fun _ _ h => ⟨h.1, h.2.below⟩
set_option maxRecDepth 100000 in
theorem tcheck_bad (l b0 b1 s0 s1 : Int) (w : World) (hl : ¬ (1 ≤ l ∧ l ≤ 3)) :
    Calls Tryd.prog 53 #[.agg #[.int .i64 l, .int .u64 b0, .int .u64 b1, .int .u64 s0, .int .u64 s1]] w fun e w' => e = .returned (errW (some 11)) ∧ Below w.heap.size w w' := by
  have hg := fun W => tgood l W
  rw [decide_eq_false hl] at hg
  go_enter Tryd.func53, Tryd.ntmps53
  go_wp2_with fail
  obtain ⟨w1, hw1, hcc, hsz, hB1⟩ := one_new w #[.int .i64 l, .int .u64 b0, .int .u64 b1, .int .u64 s0, .int .u64 s1] 29
  rw [← hw1]
  have HB1 := Aside0.mk hB1
  clear hw1 hcc
  refine (hg _).mono ?_
  rintro e w2 ⟨rfl, hb⟩
  have HB := Aside0.mk (HB1.out.trans (hb.mono (by omega)))
  clear hb hB1
  go_wp2
  go_ret
  exact ⟨rfl, HB.out⟩
def badH (b s out : Int) : Bool := (Go.bits .and .u64 b (Go.bits .or .u64 out 1) != 0) || (Go.bits .and .u64 s out != 0)
set_option maxRecDepth 100000 in
set_option maxHeartbeats 2000000 in
theorem tcheck_1 (b0 b1 s0 s1 : Int) (w : World) (X : Option Int) (hX : X = if (badH b0 s0 0 || badH b1 s1 18446744073709551615) = true then some 5 else none) :
    Calls Tryd.prog 53 #[.agg #[.int .i64 1, .int .u64 b0, .int .u64 b1, .int .u64 s0, .int .u64 s1]] w fun e w' => e = .returned (errW X) ∧ Below w.heap.size w w' := by
  have HX := Aside0.mk hX
  clear hX
  have hg := fun W => tgood 1 W
  have hm := fun W => tmost 1 63 rfl W
  have hh := fun W => thalves 1 W
  rw [decide_eq_true (by decide)] at hg
  rw [show halvesR 1 = 1 from rfl] at hh
  go_enter Tryd.func53, Tryd.ntmps53
  go_wp2_with fail
  obtain ⟨w1, hw1, hcc, hsz, hB1⟩ := one_new w #[.int .i64 1, .int .u64 b0, .int .u64 b1, .int .u64 s0, .int .u64 s1] 29
  rw [← hw1]
  have y0 : w1.cell? ⟨w.heap.size, 0, none⟩ = some (.int .i64 1) := hcc 0 _ rfl
  have y1 : w1.cell? ⟨w.heap.size, 1, none⟩ = some (.int .u64 b0) := hcc 1 _ rfl
  have y2 : w1.cell? ⟨w.heap.size, 2, none⟩ = some (.int .u64 b1) := hcc 2 _ rfl
  have y3 : w1.cell? ⟨w.heap.size, 3, none⟩ = some (.int .u64 s0) := hcc 3 _ rfl
  have y4 : w1.cell? ⟨w.heap.size, 4, none⟩ = some (.int .u64 s1) := hcc 4 _ rfl
  have HB1 := Aside0.mk hB1
  clear hw1 hcc hB1
  refine (hg _).mono ?_
  rintro e w2 ⟨rfl, hb⟩
  have y0 := pw_cell_below hb y0
  have y1 := pw_cell_below hb y1
  have y2 := pw_cell_below hb y2
  have y3 := pw_cell_below hb y3
  have y4 := pw_cell_below hb y4
  have HB := Aside0.mk (HB1.out.trans (hb.mono (by omega)))
  clear hb
  go_wp2_with fail
  refine (hm _).mono ?_
  rintro e w3 ⟨rfl, hb⟩
  have y0 := pw_cell_below hb y0
  have y1 := pw_cell_below hb y1
  have y2 := pw_cell_below hb y2
  have y3 := pw_cell_below hb y3
  have y4 := pw_cell_below hb y4
  have hz3 := hb.size
  have HB := Aside0.mk (HB.out.trans (hb.mono (by have := HB.out.size; omega)))
  clear hb
  go_wp2_with fail
  have Y0 := Aside0.mk y0
  have Y1 := Aside0.mk y1
  have Y2 := Aside0.mk y2
  have Y3 := Aside0.mk y3
  have Y4 := Aside0.mk y4
  clear y0 y1 y2 y3 y4
  have hzw := HB.out.size
  go_loopw [20] (fun i wr => ∃ j : Nat, j ≤ 2 ∧ i = .int .i64 j ∧ (0 < j → badH b0 s0 0 = false) ∧ (1 < j → badH b1 s1 18446744073709551615 = false) ∧ Below w3.heap.size w3 wr) (fun i _ => 2 - (intOf i).toNat)
  case atStart => exact ⟨0, by omega, rfl, fun h => absurd h (by omega), fun h => absurd h (by omega), Below.refl _ _⟩
  case round =>
    obtain ⟨j, hj, rfl, g0, g1, hb⟩ := hrel
    have G0 := Aside0.mk g0
    have G1 := Aside0.mk g1
    clear g0 g1
    have y0 := pw_cell_below hb Y0.out
    have y1 := pw_cell_below hb Y1.out
    have y2 := pw_cell_below hb Y2.out
    have y3 := pw_cell_below hb Y3.out
    have y4 := pw_cell_below hb Y4.out
    have HBR := Aside0.mk hb
    clear hb
    have hjj : j = 0 ∨ j = 1 ∨ j = 2 := by omega
    rcases hjj with rfl | rfl | rfl
    · go_wp2_with fail
      refine (hh _).mono ?_
      rintro e w4 ⟨rfl, hb⟩
      have z0 := pw_cell_below hb y0
      have z1 := pw_cell_below hb y1
      have z2 := pw_cell_below hb y2
      have z3 := pw_cell_below hb y3
      have z4 := pw_cell_below hb y4
      have hzr := HBR.out.size
      have HB4 := Aside0.mk (HBR.out.trans (hb.mono (by omega)))
      clear y0 y1 y2 y3 y4 hb
      go_wp2_with fail
      all_goals first
        | (go_roundw; (case rel => exact ⟨1, by omega, by first | rfl | go_num, fun _ => by simp [badH, *], fun h => absurd h (by omega), HB4.out⟩); (case measure => simp [intOf]))
        | (go_ret; refine ⟨?_, HB.out.trans (HB4.out.mono (by omega))⟩; rw [HX.out]; simp [badH, errW, *])
    · go_wp2_with fail
      refine (hh _).mono ?_
      rintro e w4 ⟨rfl, hb⟩
      have z0 := pw_cell_below hb y0
      have z1 := pw_cell_below hb y1
      have z2 := pw_cell_below hb y2
      have z3 := pw_cell_below hb y3
      have z4 := pw_cell_below hb y4
      have hzr := HBR.out.size
      have HB4 := Aside0.mk (HBR.out.trans (hb.mono (by omega)))
      clear y0 y1 y2 y3 y4 hb
      go_wp2_with fail
      all_goals first
        | (go_roundw; (case rel => exact ⟨2, by omega, by first | rfl | go_num, fun _ => G0.out (by omega), fun _ => by simp [badH, *], HB4.out⟩); (case measure => simp [intOf]))
        | (go_ret; refine ⟨?_, HB.out.trans (HB4.out.mono (by omega))⟩; rw [HX.out]; simp [badH, errW, *])
    · have r0 := G0.out (by omega)
      have r1 := G1.out (by omega)
      have hX : X = none := by rw [HX.out, r0, r1]; rfl
      subst hX
      clear y0 y1 y2 y3 y4
      go_wp2
      go_ret
      exact ⟨rfl, HB.out.trans (HBR.out.mono (by have := HB.out.size; omega))⟩
set_option maxRecDepth 100000 in
set_option maxHeartbeats 2000000 in
theorem tcheck_2 (b0 b1 s0 s1 : Int) (w : World) (X : Option Int) (hX : X = if (badH b0 s0 18446744073709551600 || badH b1 s1 18446744073709551600) = true then some 5 else none) :
    Calls Tryd.prog 53 #[.agg #[.int .i64 2, .int .u64 b0, .int .u64 b1, .int .u64 s0, .int .u64 s1]] w fun e w' => e = .returned (errW X) ∧ Below w.heap.size w w' := by
  have hwr : IntKind.u64.wrap 295147905179352825840 = 18446744073709551600 := by decide
  have HX := Aside0.mk hX
  clear hX
  have hg := fun W => tgood 2 W
  have hm := fun W => tmost 2 3 rfl W
  have hh := fun W => thalves 2 W
  rw [decide_eq_true (by decide)] at hg
  rw [show halvesR 2 = 2 from rfl] at hh
  go_enter Tryd.func53, Tryd.ntmps53
  go_wp2_with fail
  obtain ⟨w1, hw1, hcc, hsz, hB1⟩ := one_new w #[.int .i64 2, .int .u64 b0, .int .u64 b1, .int .u64 s0, .int .u64 s1] 29
  rw [← hw1]
  have y0 : w1.cell? ⟨w.heap.size, 0, none⟩ = some (.int .i64 2) := hcc 0 _ rfl
  have y1 : w1.cell? ⟨w.heap.size, 1, none⟩ = some (.int .u64 b0) := hcc 1 _ rfl
  have y2 : w1.cell? ⟨w.heap.size, 2, none⟩ = some (.int .u64 b1) := hcc 2 _ rfl
  have y3 : w1.cell? ⟨w.heap.size, 3, none⟩ = some (.int .u64 s0) := hcc 3 _ rfl
  have y4 : w1.cell? ⟨w.heap.size, 4, none⟩ = some (.int .u64 s1) := hcc 4 _ rfl
  have HB1 := Aside0.mk hB1
  clear hw1 hcc hB1
  refine (hg _).mono ?_
  rintro e w2 ⟨rfl, hb⟩
  have y0 := pw_cell_below hb y0
  have y1 := pw_cell_below hb y1
  have y2 := pw_cell_below hb y2
  have y3 := pw_cell_below hb y3
  have y4 := pw_cell_below hb y4
  have HB := Aside0.mk (HB1.out.trans (hb.mono (by omega)))
  clear hb
  go_wp2_with fail
  refine (hm _).mono ?_
  rintro e w3 ⟨rfl, hb⟩
  have y0 := pw_cell_below hb y0
  have y1 := pw_cell_below hb y1
  have y2 := pw_cell_below hb y2
  have y3 := pw_cell_below hb y3
  have y4 := pw_cell_below hb y4
  have hz3 := hb.size
  have HB := Aside0.mk (HB.out.trans (hb.mono (by have := HB.out.size; omega)))
  clear hb
  go_wp2_with fail
  have Y0 := Aside0.mk y0
  have Y1 := Aside0.mk y1
  have Y2 := Aside0.mk y2
  have Y3 := Aside0.mk y3
  have Y4 := Aside0.mk y4
  clear y0 y1 y2 y3 y4
  have hzw := HB.out.size
  go_loopw [20] (fun i wr => ∃ j : Nat, j ≤ 2 ∧ i = .int .i64 j ∧ (0 < j → badH b0 s0 18446744073709551600 = false) ∧ (1 < j → badH b1 s1 18446744073709551600 = false) ∧ Below w3.heap.size w3 wr) (fun i _ => 2 - (intOf i).toNat)
  case atStart => exact ⟨0, by omega, rfl, fun h => absurd h (by omega), fun h => absurd h (by omega), Below.refl _ _⟩
  case round =>
    obtain ⟨j, hj, rfl, g0, g1, hb⟩ := hrel
    have G0 := Aside0.mk g0
    have G1 := Aside0.mk g1
    clear g0 g1
    have y0 := pw_cell_below hb Y0.out
    have y1 := pw_cell_below hb Y1.out
    have y2 := pw_cell_below hb Y2.out
    have y3 := pw_cell_below hb Y3.out
    have y4 := pw_cell_below hb Y4.out
    have HBR := Aside0.mk hb
    clear hb
    have hjj : j = 0 ∨ j = 1 ∨ j = 2 := by omega
    rcases hjj with rfl | rfl | rfl
    · go_wp2_with fail
      refine (hh _).mono ?_
      rintro e w4 ⟨rfl, hb⟩
      have z0 := pw_cell_below hb y0
      have z1 := pw_cell_below hb y1
      have z2 := pw_cell_below hb y2
      have z3 := pw_cell_below hb y3
      have z4 := pw_cell_below hb y4
      have hzr := HBR.out.size
      have HB4 := Aside0.mk (HBR.out.trans (hb.mono (by omega)))
      clear y0 y1 y2 y3 y4 hb
      go_wp2_with fail
      all_goals first
        | (go_roundw; (case rel => exact ⟨1, by omega, by first | rfl | go_num, fun _ => by simp [badH, *], fun h => absurd h (by omega), HB4.out⟩); (case measure => simp [intOf]))
        | (go_ret; refine ⟨?_, HB.out.trans (HB4.out.mono (by omega))⟩; rw [HX.out]; simp [badH, errW, *])
    · go_wp2_with fail
      refine (hh _).mono ?_
      rintro e w4 ⟨rfl, hb⟩
      have z0 := pw_cell_below hb y0
      have z1 := pw_cell_below hb y1
      have z2 := pw_cell_below hb y2
      have z3 := pw_cell_below hb y3
      have z4 := pw_cell_below hb y4
      have hzr := HBR.out.size
      have HB4 := Aside0.mk (HBR.out.trans (hb.mono (by omega)))
      clear y0 y1 y2 y3 y4 hb
      go_wp2_with fail
      all_goals first
        | (go_roundw; (case rel => exact ⟨2, by omega, by first | rfl | go_num, fun _ => G0.out (by omega), fun _ => by simp [badH, *], HB4.out⟩); (case measure => simp [intOf]))
        | (go_ret; refine ⟨?_, HB.out.trans (HB4.out.mono (by omega))⟩; rw [HX.out]; simp [badH, errW, *])
    · have r0 := G0.out (by omega)
      have r1 := G1.out (by omega)
      have hX : X = none := by rw [HX.out, r0, r1]; rfl
      subst hX
      clear y0 y1 y2 y3 y4
      go_wp2
      go_ret
      exact ⟨rfl, HB.out.trans (HBR.out.mono (by have := HB.out.size; omega))⟩
set_option maxRecDepth 100000 in
set_option maxHeartbeats 2000000 in
theorem tcheck_3 (b0 b1 s0 s1 : Int) (w : World) (X : Option Int) (hX : X = if (badH b0 s0 18446744073709543424 || badH b1 s1 18446744073709543424) = true then some 5 else none) :
    Calls Tryd.prog 53 #[.agg #[.int .i64 3, .int .u64 b0, .int .u64 b1, .int .u64 s0, .int .u64 s1]] w fun e w' => e = .returned (errW X) ∧ Below w.heap.size w w' := by
  have hwr : IntKind.u64.wrap 151115727451828646830080 = 18446744073709543424 := by decide
  have HX := Aside0.mk hX
  clear hX
  have hg := fun W => tgood 3 W
  have hm := fun W => tmost 3 12 rfl W
  have hh := fun W => thalves 3 W
  rw [decide_eq_true (by decide)] at hg
  rw [show halvesR 3 = 2 from rfl] at hh
  go_enter Tryd.func53, Tryd.ntmps53
  go_wp2_with fail
  obtain ⟨w1, hw1, hcc, hsz, hB1⟩ := one_new w #[.int .i64 3, .int .u64 b0, .int .u64 b1, .int .u64 s0, .int .u64 s1] 29
  rw [← hw1]
  have y0 : w1.cell? ⟨w.heap.size, 0, none⟩ = some (.int .i64 3) := hcc 0 _ rfl
  have y1 : w1.cell? ⟨w.heap.size, 1, none⟩ = some (.int .u64 b0) := hcc 1 _ rfl
  have y2 : w1.cell? ⟨w.heap.size, 2, none⟩ = some (.int .u64 b1) := hcc 2 _ rfl
  have y3 : w1.cell? ⟨w.heap.size, 3, none⟩ = some (.int .u64 s0) := hcc 3 _ rfl
  have y4 : w1.cell? ⟨w.heap.size, 4, none⟩ = some (.int .u64 s1) := hcc 4 _ rfl
  have HB1 := Aside0.mk hB1
  clear hw1 hcc hB1
  refine (hg _).mono ?_
  rintro e w2 ⟨rfl, hb⟩
  have y0 := pw_cell_below hb y0
  have y1 := pw_cell_below hb y1
  have y2 := pw_cell_below hb y2
  have y3 := pw_cell_below hb y3
  have y4 := pw_cell_below hb y4
  have HB := Aside0.mk (HB1.out.trans (hb.mono (by omega)))
  clear hb
  go_wp2_with fail
  refine (hm _).mono ?_
  rintro e w3 ⟨rfl, hb⟩
  have y0 := pw_cell_below hb y0
  have y1 := pw_cell_below hb y1
  have y2 := pw_cell_below hb y2
  have y3 := pw_cell_below hb y3
  have y4 := pw_cell_below hb y4
  have hz3 := hb.size
  have HB := Aside0.mk (HB.out.trans (hb.mono (by have := HB.out.size; omega)))
  clear hb
  go_wp2_with fail
  have Y0 := Aside0.mk y0
  have Y1 := Aside0.mk y1
  have Y2 := Aside0.mk y2
  have Y3 := Aside0.mk y3
  have Y4 := Aside0.mk y4
  clear y0 y1 y2 y3 y4
  have hzw := HB.out.size
  go_loopw [20] (fun i wr => ∃ j : Nat, j ≤ 2 ∧ i = .int .i64 j ∧ (0 < j → badH b0 s0 18446744073709543424 = false) ∧ (1 < j → badH b1 s1 18446744073709543424 = false) ∧ Below w3.heap.size w3 wr) (fun i _ => 2 - (intOf i).toNat)
  case atStart => exact ⟨0, by omega, rfl, fun h => absurd h (by omega), fun h => absurd h (by omega), Below.refl _ _⟩
  case round =>
    obtain ⟨j, hj, rfl, g0, g1, hb⟩ := hrel
    have G0 := Aside0.mk g0
    have G1 := Aside0.mk g1
    clear g0 g1
    have y0 := pw_cell_below hb Y0.out
    have y1 := pw_cell_below hb Y1.out
    have y2 := pw_cell_below hb Y2.out
    have y3 := pw_cell_below hb Y3.out
    have y4 := pw_cell_below hb Y4.out
    have HBR := Aside0.mk hb
    clear hb
    have hjj : j = 0 ∨ j = 1 ∨ j = 2 := by omega
    rcases hjj with rfl | rfl | rfl
    · go_wp2_with fail
      refine (hh _).mono ?_
      rintro e w4 ⟨rfl, hb⟩
      have z0 := pw_cell_below hb y0
      have z1 := pw_cell_below hb y1
      have z2 := pw_cell_below hb y2
      have z3 := pw_cell_below hb y3
      have z4 := pw_cell_below hb y4
      have hzr := HBR.out.size
      have HB4 := Aside0.mk (HBR.out.trans (hb.mono (by omega)))
      clear y0 y1 y2 y3 y4 hb
      go_wp2_with fail
      all_goals first
        | (go_roundw; (case rel => exact ⟨1, by omega, by first | rfl | go_num, fun _ => by simp [badH, *], fun h => absurd h (by omega), HB4.out⟩); (case measure => simp [intOf]))
        | (go_ret; refine ⟨?_, HB.out.trans (HB4.out.mono (by omega))⟩; rw [HX.out]; simp [badH, errW, *])
    · go_wp2_with fail
      refine (hh _).mono ?_
      rintro e w4 ⟨rfl, hb⟩
      have z0 := pw_cell_below hb y0
      have z1 := pw_cell_below hb y1
      have z2 := pw_cell_below hb y2
      have z3 := pw_cell_below hb y3
      have z4 := pw_cell_below hb y4
      have hzr := HBR.out.size
      have HB4 := Aside0.mk (HBR.out.trans (hb.mono (by omega)))
      clear y0 y1 y2 y3 y4 hb
      go_wp2_with fail
      all_goals first
        | (go_roundw; (case rel => exact ⟨2, by omega, by first | rfl | go_num, fun _ => G0.out (by omega), fun _ => by simp [badH, *], HB4.out⟩); (case measure => simp [intOf]))
        | (go_ret; refine ⟨?_, HB.out.trans (HB4.out.mono (by omega))⟩; rw [HX.out]; simp [badH, errW, *])
    · have r0 := G0.out (by omega)
      have r1 := G1.out (by omega)
      have hX : X = none := by rw [HX.out, r0, r1]; rfl
      subst hX
      clear y0 y1 y2 y3 y4
      go_wp2
      go_ret
      exact ⟨rfl, HB.out.trans (HBR.out.mono (by have := HB.out.size; omega))⟩
/-- what may be of a table, beyond its lattice -/
def restT (l : Int) : Int := if l = 1 then 0 else if l = 2 then 18446744073709551600 else 18446744073709543424
def outT (l : Int) : Int := if l = 1 then 18446744073709551615 else restT l
def checkT (l b0 b1 s0 s1 : Int) : Option Int := if 1 ≤ l ∧ l ≤ 3 then (if (badH b0 s0 (restT l) || badH b1 s1 (outT l)) = true then some 5 else none) else some 11
def XTCheck.f (l b0 b1 s0 s1 : Int) : Option (Option Int) := some (checkT l b0 b1 s0 s1)
theorem XTCheck.calls (a0_0 : Int) (a0_1 : Int) (a0_2 : Int) (a0_3 : Int) (a0_4 : Int) (r : Option Int) (w : World) (h : XTCheck.f a0_0 a0_1 a0_2 a0_3 a0_4 = some r) :
    Calls Tryd.prog 53 #[.agg #[.int .i64 a0_0, .int .u64 a0_1, .int .u64 a0_2, .int .u64 a0_3, .int .u64 a0_4]] w fun e w' => e = .returned (errW r) ∧ Below w.heap.size w w' := by
  unfold XTCheck.f at h
  obtain rfl := Option.some.inj h
  unfold checkT
  by_cases hl : 1 ≤ a0_0 ∧ a0_0 ≤ 3
  · rw [if_pos hl]
    have hc : a0_0 = 1 ∨ a0_0 = 2 ∨ a0_0 = 3 := by omega
    rcases hc with rfl | rfl | rfl
    · exact tcheck_1 _ _ _ _ w _ rfl
    · exact tcheck_2 _ _ _ _ w _ rfl
    · exact tcheck_3 _ _ _ _ w _ rfl
  · rw [if_neg hl]
    exact tcheck_bad _ _ _ _ _ w hl
end Go.Proofs.YtaeenefdbahfoaaDoor
