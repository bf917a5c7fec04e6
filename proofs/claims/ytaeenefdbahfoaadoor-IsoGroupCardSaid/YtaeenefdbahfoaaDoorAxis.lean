/- The contracts of the functions of layer 1 that hold arrays: the matrix of an operator, the six points, where an operator brings a point. -/
import Derived.Test.YtaeenefdbahfoaaDoorMatrix
namespace Go.Proofs.YtaeenefdbahfoaaDoor
open Go.RowKit Go.Proofs.YtaeenefdbahfoaaDoorW.PrintWords Go.Proofs.YtaeenefdbahfoaaDoorW.PrintLast Go.Proofs.YtaeenefdbahfoaaDoorW.PrintMore

def sixI : List Int := [1, 0, 0, 1, -1, 1, -1, 0, 0, -1, 1, -1]
def sixV : List Value := sixI.map (Value.int .i64)
/-- the table of six points lies in its variable -/
structure Six (w : World) : Prop where
  sz : 0 < w.heap.size
  at_ : ∀ j v, sixV[j]? = some v → w.cell? ⟨0, j, none⟩ = some v
theorem Six.below {w w' : World} (h : Six w) (hb : Below w.heap.size w w') : Six w' :=
  ⟨Nat.lt_of_lt_of_le h.sz hb.size, fun j v hv => (hb.cell (p := ⟨0, j, none⟩) h.sz).trans (h.at_ j v hv)⟩
theorem Six.cells {w : World} (h : Six w) : w.cell? ⟨0, 0, none⟩ = some (.int .i64 1) ∧ w.cell? ⟨0, 1, none⟩ = some (.int .i64 0) ∧ w.cell? ⟨0, 2, none⟩ = some (.int .i64 0) ∧ w.cell? ⟨0, 3, none⟩ = some (.int .i64 1) ∧ w.cell? ⟨0, 4, none⟩ = some (.int .i64 (-1)) ∧ w.cell? ⟨0, 5, none⟩ = some (.int .i64 1) ∧ w.cell? ⟨0, 6, none⟩ = some (.int .i64 (-1)) ∧ w.cell? ⟨0, 7, none⟩ = some (.int .i64 0) ∧ w.cell? ⟨0, 8, none⟩ = some (.int .i64 0) ∧ w.cell? ⟨0, 9, none⟩ = some (.int .i64 (-1)) ∧ w.cell? ⟨0, 10, none⟩ = some (.int .i64 1) ∧ w.cell? ⟨0, 11, none⟩ = some (.int .i64 (-1)) :=
  ⟨h.at_ 0 _ rfl, h.at_ 1 _ rfl, h.at_ 2 _ rfl, h.at_ 3 _ rfl, h.at_ 4 _ rfl, h.at_ 5 _ rfl, h.at_ 6 _ rfl, h.at_ 7 _ rfl, h.at_ 8 _ rfl, h.at_ 9 _ rfl, h.at_ 10 _ rfl, h.at_ 11 _ rfl⟩
def sixVal : Value := .agg #[.int .i64 1, .int .i64 0, .int .i64 0, .int .i64 1, .int .i64 (-1), .int .i64 1, .int .i64 (-1), .int .i64 0, .int .i64 0, .int .i64 (-1), .int .i64 1, .int .i64 (-1)]

theorem six_any (w : World) (h : Six w) :
    Calls Tryd.prog 32 #[] w fun e w' => e = .returned sixVal ∧ Below w.heap.size w w' := by
  have hr := fun o => (h.below ((Below.refl _ _).alloc (Nat.le_refl _) o)).cells
  have c0 := fun o => (hr o).1
  have c1 := fun o => (hr o).2.1
  have c2 := fun o => (hr o).2.2.1
  have c3 := fun o => (hr o).2.2.2.1
  have c4 := fun o => (hr o).2.2.2.2.1
  have c5 := fun o => (hr o).2.2.2.2.2.1
  have c6 := fun o => (hr o).2.2.2.2.2.2.1
  have c7 := fun o => (hr o).2.2.2.2.2.2.2.1
  have c8 := fun o => (hr o).2.2.2.2.2.2.2.2.1
  have c9 := fun o => (hr o).2.2.2.2.2.2.2.2.2.1
  have c10 := fun o => (hr o).2.2.2.2.2.2.2.2.2.2.1
  have c11 := fun o => (hr o).2.2.2.2.2.2.2.2.2.2.2
  clear hr
  go_enter Tryd.func32, Tryd.ntmps32
  go_wp2
  exact bodyPost_ret (v := sixVal) (by simp [sixVal, results, Tryd.results32, go_sem]) rfl ⟨rfl, (by with_reducible repeat (first | apply below_alloc | apply pw_below_drewN | apply below_drew | refine bset ?_ _ _ (by omega) _ | exact Below.refl _ _))⟩
end Go.Proofs.YtaeenefdbahfoaaDoor
