/- The contracts of the functions of layer 1 that hold arrays: the matrix of an operator, the six points, where an operator brings a point. -/
import Derived.Test.YtdgjfkpjgllffaaDoorL0
namespace Go.Proofs.YtdgjfkpjgllffaaDoor
open Go.RowKit Go.Proofs.YtdgjfkpjgllffaaDoorW.PrintWords Go.Proofs.YtdgjfkpjgllffaaDoorW.PrintLast Go.Proofs.YtdgjfkpjgllffaaDoorW.PrintMore

def mat0 (o : Int) : Int × Int × Int × Int := if o < 6 then (1, 0, 0, 1) else (0, 1, 1, 0)
def turnM (m : Int × Int × Int × Int) : Int × Int × Int × Int := (-m.2.2.1, -m.2.2.2, m.1 + m.2.2.1, m.2.1 + m.2.2.2)
def turns (o : Int) : Nat → Int × Int × Int × Int
  | 0 => mat0 o
  | k + 1 => turnM (turns o k)
theorem turns_bd (o : Int) (k : Nat) (hk : k ≤ 6) : (-1 ≤ (turns o k).1 ∧ (turns o k).1 ≤ 1) ∧ (-1 ≤ (turns o k).2.1 ∧ (turns o k).2.1 ≤ 1) ∧ (-1 ≤ (turns o k).2.2.1 ∧ (turns o k).2.2.1 ≤ 1) ∧ (-1 ≤ (turns o k).2.2.2 ∧ (turns o k).2.2.2 ≤ 1) := by
  have : k = 0 ∨ k = 1 ∨ k = 2 ∨ k = 3 ∨ k = 4 ∨ k = 5 ∨ k = 6 := by omega
  rcases this with rfl | rfl | rfl | rfl | rfl | rfl | rfl <;> (simp only [turns, turnM, mat0]; split <;> decide)
def matV (m : Int × Int × Int × Int) : Value := .agg #[.int .i64 m.1, .int .i64 m.2.1, .int .i64 m.2.2.1, .int .i64 m.2.2.2]

theorem matrix_any (o : Int) (w : World) (h0 : 0 ≤ o) (h1 : o < 12) :
    Calls Tryd.prog 45 #[.int .i64 o] w fun e w' => e = .returned (matV (turns o (o % 6).toNat)) ∧ Below w.heap.size w w' := by
  have hb6 : 0 ≤ o % 6 ∧ o % 6 < 6 := by omega
  obtain ⟨hb6, hb7⟩ := hb6
  by_cases h : o < 6
  all_goals
    go_enter Tryd.func45, Tryd.ntmps45
    go_wp2
    go_loopw [10] (fun i wr => ∃ k : Nat, k ≤ 6 ∧ (k : Int) ≤ o % 6 ∧ i = .int .i64 k ∧ wr = (w.alloc (.cells #[.int .i64 0, .int .i64 0, .int .i64 0, .int .i64 0] 81)).alloc (.cells #[.int .i64 (turns o k).1, .int .i64 (turns o k).2.1, .int .i64 (turns o k).2.2.1, .int .i64 (turns o k).2.2.2] 81)) (fun i _ => 6 - (intOf i).toNat)
    case atStart => exact ⟨0, by omega, by omega, rfl, by simp only [turns, mat0]; split <;> first | rfl | omega⟩
    case round =>
      obtain ⟨k, hk, hk', rfl, rfl⟩ := hrel
      obtain ⟨⟨b1, b2⟩, ⟨b3, b4⟩, ⟨b5, b6⟩, ⟨b7, b8⟩⟩ := turns_bd o k hk
      by_cases hlt : (k : Int) < o % 6
      · go_wp2
        go_roundw
        case rel => exact ⟨k + 1, by omega, by omega, by go_num, by simp [turns, turnM]⟩
        case measure => simp [intOf]; omega
      · go_wp2
        have hk2 : k = (o % 6).toNat := by omega
        exact bodyPost_ret (v := .agg #[.int .i64 (turns o k).1, .int .i64 (turns o k).2.1, .int .i64 (turns o k).2.2.1, .int .i64 (turns o k).2.2.2]) (by simp [results, Tryd.results45, go_sem]) rfl ⟨by rw [← hk2]; rfl, (by with_reducible repeat (first | apply below_alloc | apply pw_below_drewN | apply below_drew | refine bset ?_ _ _ (by omega) _ | exact Below.refl _ _))⟩

def sixI : List Int := [1, 0, 0, 1, -1, 1, -1, 0, 0, -1, 1, -1]
def sixV : List Value := sixI.map (Value.int .i64)
/-- the table of six points lies in its variable -/
structure Six (w : World) : Prop where
  sz : 0 < w.heap.size
  at_ : ∀ j v, sixV[j]? = some v → w.cell? ⟨0, j, none⟩ = some v
theorem Six.below {w w' : World} (h : Six w) (hb : Below w.heap.size w w') : Six w' :=
  ⟨Nat.lt_of_lt_of_le h.sz hb.size, fun j v hv => (hb.cell (p := ⟨0, j, none⟩) h.sz).trans (h.at_ j v hv)⟩
theorem Six.cells {w : World} (h : Six w) : w.cell? ⟨0, 0, none⟩ = some (.int .i64 1) ∧ w.cell? ⟨0, 1, none⟩ = some (.int .i64 0) ∧ w.cell? ⟨0, 2, none⟩ = some (.int .i64 0) ∧ w.cell? ⟨0, 3, none⟩ = some (.int .i64 1) ∧ w.cell? ⟨0, 4, none⟩ = some (.int .i64 (-1)) ∧ w.cell? ⟨0, 5, none⟩ = some (.int .i64 1) ∧ w.cell? ⟨0, 6, none⟩ = some (.int .i64 (-1)) ∧ w.cell? ⟨0, 7, none⟩ = some (.int .i64 0) ∧ w.cell? ⟨0, 8, none⟩ = some (.int .i64 0) ∧ w.cell? ⟨0, 9, none⟩ = some (.int .i64 (-1)) ∧ w.cell? ⟨0, 10, none⟩ = some (.int .i64 1) ∧ w.cell? ⟨0, 11, none⟩ = some (.int .i64 (-1)) :=
  ⟨h.at_ 0 _ rfl, h.at_ 1 _ rfl, h.at_ 2 _ rfl, h.at_ 3 _ rfl, h.at_ 4 _ rfl, h.at_ 5 _ rfl, h.at_ 6 _ rfl, h.at_ 7 _ rfl, h.at_ 8 _ rfl, h.at_ 9 _ rfl, h.at_ 10 _ rfl, h.at_ 11 _ rfl⟩
def sixVal : Value := .agg #[.int .i64 1, .int .i64 0, .int .i64 0, .int .i64 1, .int .i64 (-1), .int .i64 1, .int .i64 (-1), .int .i64 0, .int .i64 0, .int .i64 (-1), .int .i64 1, .int .i64 (-1)]

theorem six_any (w : World) (h : Six w) :
    Calls Tryd.prog 22 #[] w fun e w' => e = .returned sixVal ∧ Below w.heap.size w w' := by
  have hr := fun o => (h.below ((Below.refl _ _).alloc (Nat.le_refl _) o)).cells
  have c0 := fun o => (hr o).1
  have c1 := fun o => (hr o).2.1
  have c2 := fun o => (hr o).2.2.1
  have c3 := fun o => (hr o).2.2.2.1
  have c4 := fun o => (hr o).2.2.2.2.1
  have c5 := fun o => (hr o).2.2.2.2.2.1
  have c6 := fun o => (hr o).2.2.2.2.2.2.1
  have c7 := fun o => (hr o).2.2.2.2.2.2.2.1
  have c8 := fun o => (hr o).2.2.2.2.2.2.2.2.1
  have c9 := fun o => (hr o).2.2.2.2.2.2.2.2.2.1
  have c10 := fun o => (hr o).2.2.2.2.2.2.2.2.2.2.1
  have c11 := fun o => (hr o).2.2.2.2.2.2.2.2.2.2.2
  clear hr
  go_enter Tryd.func22, Tryd.ntmps22
  go_wp2
  exact bodyPost_ret (v := sixVal) (by simp [sixVal, results, Tryd.results22, go_sem]) rfl ⟨rfl, (by with_reducible repeat (first | apply below_alloc | apply pw_below_drewN | apply below_drew | refine bset ?_ _ _ (by omega) _ | exact Below.refl _ _))⟩
end Go.Proofs.YtdgjfkpjgllffaaDoor
