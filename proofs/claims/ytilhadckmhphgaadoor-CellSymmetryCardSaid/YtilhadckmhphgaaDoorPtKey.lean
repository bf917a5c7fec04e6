/- Points as keys of maps. -/
import Derived.Test.YtilhadckmhphgaaDoorMp
import Derived.Test.YtilhadckmhphgaaDoorH0
import Derived.DeepKeys4
namespace Go.Proofs.YtilhadckmhphgaaDoor
open Go.RowKit Go.Proofs.YtilhadckmhphgaaDoorW.PrintWords Go.Proofs.YtilhadckmhphgaaDoorW.PrintLast Go.Proofs.YtilhadckmhphgaaDoorW.PrintMore
open Go.ChangeMaps Go.MapKept Go.WideShapes
open Go.Maps (Keyed)
theorem ptLaidOut : laidOutB Tryd.prog = true := by kernel_rfl
theorem ptWide : (match Tryd.prog.underlying 29 with | some (.array _ _) | some (.struct _) => true | _ => false) = true := by rw [Tryd.underlying29]
theorem ptLaw : Go.WideMaps.KeyLaw Tryd.prog 29 := deep_law_laid ptLaidOut (m := 2) (by omega) (of_decide_eq_true (by kernel_rfl)) (by kernel_rfl) ptWide
theorem ptKeyed : Keyed Tryd.prog 29 := Keyed.of_law ptLaw
theorem ptCells : Tryd.prog.cellsOf 29 = 2 := by kernel_rfl
theorem i64Cells : Tryd.prog.cellsOf 2 = 1 := by kernel_rfl
theorem ptFormed (a b : Value) : (Value.agg #[a, b]).formed Tryd.prog 29 = true := by simp [Value.formed, Tryd.underlying29, ptCells]
theorem i64wf (a : Int) (h : -9223372036854775808 ≤ a) (h' : a ≤ 9223372036854775807) : (Lit.int .i64 a).wf = true := by
  simp only [Lit.wf, IntKind.min, IntKind.max, IntKind.signed, IntKind.bits, Bool.and_eq_true, decide_eq_true_eq, if_true]
  omega
theorem lits_i64 (n : Nat) (a : Int) (h : -9223372036854775808 ≤ a) (h' : a ≤ 9223372036854775807) : Tryd.prog.keyLits (n + 1) 2 [.int .i64 a] = some [.int .i64 a] := by
  simp [Program.keyLits, Tryd.underlying2, i64wf a h h']
theorem lits_pt (n : Nat) (a b : Int) (ha : -9223372036854775808 ≤ a) (ha' : a ≤ 9223372036854775807) (hb : -9223372036854775808 ≤ b) (hb' : b ≤ 9223372036854775807) :
    Tryd.prog.keyLits (n + 2) 29 [.int .i64 a, .int .i64 b] = some [.int .i64 a, .int .i64 b] := by
  unfold Program.keyLits
  simp [Tryd.underlying29, ptCells, i64Cells, lits_i64 n a ha ha', lits_i64 n b hb hb']
theorem ptKey (a b : Int) (ha : -9223372036854775808 ≤ a) (ha' : a ≤ 9223372036854775807) (hb : -9223372036854775808 ≤ b) (hb' : b ≤ 9223372036854775807) :
    ∃ kl, keyOf Tryd.prog 29 (.agg #[.int .i64 a, .int .i64 b]) = some kl := by
  have hk : Tryd.prog.keyType 29 = true := by kernel_rfl
  have hs : ∃ n, Tryd.prog.types.size + 1 = n + 2 := ⟨Tryd.prog.types.size - 1, by have : 1 ≤ Tryd.prog.types.size := of_decide_eq_true (by kernel_rfl); omega⟩
  obtain ⟨n, hn⟩ := hs
  unfold keyOf
  simp only [Tryd.underlying29]
  rw [if_pos (by rw [hk, ptFormed]; rfl), hn]
  exact ⟨_, by rw [show (Value.agg #[Value.int .i64 a, Value.int .i64 b]).cells.toList = [.int .i64 a, .int .i64 b] from rfl, lits_pt n a b ha ha' hb hb']; rfl⟩
end Go.Proofs.YtilhadckmhphgaaDoor
