/- The matrix of an operator. -/
import Derived.Test.YtaeenefdbahfoaaDoorL0
namespace Go.Proofs.YtaeenefdbahfoaaDoor
open Go.RowKit Go.Proofs.YtaeenefdbahfoaaDoorW.PrintWords Go.Proofs.YtaeenefdbahfoaaDoorW.PrintLast Go.Proofs.YtaeenefdbahfoaaDoorW.PrintMore

def mat0 (o : Int) : Int × Int × Int × Int := if o < 6 then (1, 0, 0, 1) else (0, 1, 1, 0)
def turnM (m : Int × Int × Int × Int) : Int × Int × Int × Int := (-m.2.2.1, -m.2.2.2, m.1 + m.2.2.1, m.2.1 + m.2.2.2)
def turns (o : Int) : Nat → Int × Int × Int × Int
  | 0 => mat0 o
  | k + 1 => turnM (turns o k)
theorem turns_bd (o : Int) (k : Nat) (hk : k ≤ 6) : (-1 ≤ (turns o k).1 ∧ (turns o k).1 ≤ 1) ∧ (-1 ≤ (turns o k).2.1 ∧ (turns o k).2.1 ≤ 1) ∧ (-1 ≤ (turns o k).2.2.1 ∧ (turns o k).2.2.1 ≤ 1) ∧ (-1 ≤ (turns o k).2.2.2 ∧ (turns o k).2.2.2 ≤ 1) := by
  have : k = 0 ∨ k = 1 ∨ k = 2 ∨ k = 3 ∨ k = 4 ∨ k = 5 ∨ k = 6 := by omega
  rcases this with rfl | rfl | rfl | rfl | rfl | rfl | rfl <;> (simp only [turns, turnM, mat0]; split <;> decide)
def matV (m : Int × Int × Int × Int) : Value := .agg #[.int .i64 m.1, .int .i64 m.2.1, .int .i64 m.2.2.1, .int .i64 m.2.2.2]

theorem matrix_any (o : Int) (w : World) (h0 : 0 ≤ o) (h1 : o < 12) :
    Calls Tryd.prog 107 #[.int .i64 o] w fun e w' => e = .returned (matV (turns o (o % 6).toNat)) ∧ Below w.heap.size w w' := by
  have hb6 : 0 ≤ o % 6 ∧ o % 6 < 6 := by omega
  obtain ⟨hb6, hb7⟩ := hb6
  by_cases h : o < 6
  all_goals
    go_enter Tryd.func107, Tryd.ntmps107
    go_wp2
    go_loopw [10] (fun i wr => ∃ k : Nat, k ≤ 6 ∧ (k : Int) ≤ o % 6 ∧ i = .int .i64 k ∧ wr = (w.alloc (.cells #[.int .i64 0, .int .i64 0, .int .i64 0, .int .i64 0] 174)).alloc (.cells #[.int .i64 (turns o k).1, .int .i64 (turns o k).2.1, .int .i64 (turns o k).2.2.1, .int .i64 (turns o k).2.2.2] 174)) (fun i _ => 6 - (intOf i).toNat)
    case atStart => exact ⟨0, by omega, by omega, rfl, by simp only [turns, mat0]; split <;> first | rfl | omega⟩
    case round =>
      obtain ⟨k, hk, hk', rfl, rfl⟩ := hrel
      obtain ⟨⟨b1, b2⟩, ⟨b3, b4⟩, ⟨b5, b6⟩, ⟨b7, b8⟩⟩ := turns_bd o k hk
      by_cases hlt : (k : Int) < o % 6
      · go_wp2
        go_roundw
        case rel => exact ⟨k + 1, by omega, by omega, by go_num, by simp [turns, turnM]⟩
        case measure => simp [intOf]; omega
      · go_wp2
        have hk2 : k = (o % 6).toNat := by omega
        exact bodyPost_ret (v := .agg #[.int .i64 (turns o k).1, .int .i64 (turns o k).2.1, .int .i64 (turns o k).2.2.1, .int .i64 (turns o k).2.2.2]) (by simp [results, Tryd.results107, go_sem]) rfl ⟨by rw [← hk2]; rfl, (by with_reducible repeat (first | apply below_alloc | apply pw_below_drewN | apply below_drew | refine bset ?_ _ _ (by omega) _ | exact Below.refl _ _))⟩

end Go.Proofs.YtaeenefdbahfoaaDoor
