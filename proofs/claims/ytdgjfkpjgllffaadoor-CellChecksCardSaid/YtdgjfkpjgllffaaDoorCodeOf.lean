/- fault.CodeOf: the code of an error that is one, or 0. -/
import Derived.Test.YtdgjfkpjgllffaaDoorAs
namespace Go.Proofs.YtdgjfkpjgllffaaDoor
open Go.RowKit Go.Proofs.YtdgjfkpjgllffaaDoorW.PrintWords Go.Proofs.YtdgjfkpjgllffaaDoorW.PrintLast Go.Proofs.YtdgjfkpjgllffaaDoorW.PrintMore
open H
open Go.Shelf Go.RowKit Go.Lib Go.Sort

/-- errors.errorType lies in its variable -/
def Et (w : World) : Prop := w.cell? ⟨1, 0, none⟩ = some (.iface 124 (.agg #[.pointer (some ⟨2, 34, none⟩)]))
theorem Et.below {w w' : World} (h : Et w) (hb : Below w.heap.size w w') : Et w' := pw_cell_below hb h

set_option maxRecDepth 100000 in
set_option maxHeartbeats 2000000 in
theorem codeOf_any (r : Option Int) (w : World) (hE : Et w) :
    Calls Tryd.prog 27 #[errW r] w fun e w' => e = .returned (.int .i64 (r.getD 0)) ∧ Below w.heap.size w w' := by
  cases r with
  | none =>
    rw [errW_none]
    go_enter Tryd.func27, Tryd.ntmps27
    go_wp2_with (go_at_call 46; refine (as_nil _ _).mono ?_; rintro e w' ⟨rfl, rfl⟩)
    go_ret
    exact ⟨rfl, (by with_reducible repeat (first | apply below_alloc | apply pw_below_drewN | apply below_drew | refine bset ?_ _ _ (by omega) _ | exact Below.refl _ _))⟩
  | some c =>
    rw [errW_some]
    have hlt : 1 < w.heap.size := World.block_lt_of_cell? w ⟨1, 0, none⟩ hE
    have hgA : (w.alloc (.cells #[.int .i64 0] 59)).cell? ⟨1, 0, none⟩ = some (.iface 124 (.agg #[.pointer (some ⟨2, 34, none⟩)])) := pw_cell_below (below_alloc (Below.refl _ w) _) hE
    have htA : (w.alloc (.cells #[.int .i64 0] 59)).cell? ⟨w.heap.size, 0, none⟩ = some (.int .i64 0) := by simp
    have hfA : (w.alloc (.cells #[.int .i64 0] 59)).frozen? ⟨w.heap.size, 0, none⟩ = false := by simp
    have HA := Aside0.mk (as_hit c ⟨w.heap.size, 0, none⟩ (.int .i64 0) _ hgA htA hfA)
    clear hgA htA hfA
    go_enter Tryd.func27, Tryd.ntmps27
    go_wp2_with (go_at_call 46; refine HA.out.mono ?_; rintro e w' ⟨rfl, rfl⟩)
    go_ret
    exact ⟨rfl, (by with_reducible repeat (first | apply below_alloc | apply pw_below_drewN | apply below_drew | refine bset ?_ _ _ (by omega) _ | exact Below.refl _ _))⟩
end Go.Proofs.YtdgjfkpjgllffaaDoor
