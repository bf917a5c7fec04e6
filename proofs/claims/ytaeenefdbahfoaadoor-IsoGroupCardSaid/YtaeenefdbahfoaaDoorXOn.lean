/- (Lattice).On, all ways in one. -/
import Derived.Test.YtaeenefdbahfoaaDoorOnP
namespace Go.Proofs.YtaeenefdbahfoaaDoor
open Go.RowKit Go.Proofs.YtaeenefdbahfoaaDoorW.PrintWords Go.Proofs.YtaeenefdbahfoaaDoorW.PrintLast Go.Proofs.YtaeenefdbahfoaaDoorW.PrintMore
open H
open Go.Shelf Go.RowKit Go.Lib Go.Sort

/-- where an operator brings a cell -/
def onC (l o : Int) (x : CL) : CL := if l = 1 then ⟨⟨(onP o x.f0.f0 x.f0.f1).1, (onP o x.f0.f0 x.f0.f1).2⟩, 0⟩ else onT o x.f0.f0 x.f0.f1 x.f1
def onR (l o : Int) (x : CL) : CL × Option Int :=
  match checkR l x.f0.f0 x.f0.f1 x.f1 with
  | some c => (mk 0 0 0, some c)
  | none => if 0 ≤ o ∧ o < 12 then (if goodP (onC l o x).f0.f0 (onC l o x).f0.f1 then (onC l o x, none) else (mk 0 0 0, some 6)) else (mk 0 0 0, some 4)
theorem on_any (l o : Int) (x : CL) (w : World) :
    Calls Tryd.prog 56 #[.int .i64 l, .int .i64 o, .agg #[.int .i64 x.f0.f0, .int .i64 x.f0.f1, .int .i64 x.f1]] w fun e w' => e = .returned (.tuple #[.agg #[.int .i64 (onR l o x).1.f0.f0, .int .i64 (onR l o x).1.f0.f1, .int .i64 (onR l o x).1.f1], errW (onR l o x).2]) ∧ Below w.heap.size w w' := by
  unfold onR
  cases hc : checkR l x.f0.f0 x.f0.f1 x.f1 with
  | some c => exact on_refused l o _ _ _ c w hc
  | none =>
    by_cases ho : 0 ≤ o ∧ o < 12
    · obtain ⟨q1, q2, q3, q4, q5⟩ := checkR_ok hc
      simp only [if_pos ho]
      by_cases hl : l = 1
      · subst hl
        refine (onH_any o x.f0.f0 x.f0.f1 x.f1 (q5 rfl) w q3 ho.1 ho.2).mono ?_
        rintro e w' ⟨he, hb⟩
        refine ⟨?_, hb⟩
        simp only [onC, ↓reduceIte]
        by_cases hq : goodP (onP o x.f0.f0 x.f0.f1).1 (onP o x.f0.f0 x.f0.f1).2
        · simp only [hq, ↓reduceIte] at he ⊢
          rw [he]; rfl
        · simp only [hq, ↓reduceIte] at he ⊢
          rw [he]; rfl
      · refine (onT_any l o x.f0.f0 x.f0.f1 x.f1 w (by omega) q2 ho.1 ho.2 q3 (by omega) (by omega)).mono ?_
        rintro e w' ⟨he, hb⟩
        refine ⟨?_, hb⟩
        simp only [onC, hl, ↓reduceIte]
        by_cases hq : goodP (onT o x.f0.f0 x.f0.f1 x.f1).f0.f0 (onT o x.f0.f0 x.f0.f1 x.f1).f0.f1
        · simp only [hq, ↓reduceIte] at he ⊢
          rw [he]; rfl
        · simp only [hq, ↓reduceIte] at he ⊢
          rw [he]; rfl
    · simp only [if_neg ho]
      exact on_badop l o _ _ _ w hc ho
def XOn.f (l o a b h : Int) : Option (Int × Int × Int × Option Int) := some ((onR l o (mk a b h)).1.f0.f0, (onR l o (mk a b h)).1.f0.f1, (onR l o (mk a b h)).1.f1, (onR l o (mk a b h)).2)
theorem XOn.calls (a0 : Int) (a1 : Int) (a2_0 : Int) (a2_1 : Int) (a2_2 : Int) (r1 : Int) (r2 : Int) (r3 : Int) (r4 : Option Int) (w : World) (h : XOn.f a0 a1 a2_0 a2_1 a2_2 = some (r1, r2, r3, r4)) :
    Calls Tryd.prog 56 #[.int .i64 a0, .int .i64 a1, .agg #[.int .i64 a2_0, .int .i64 a2_1, .int .i64 a2_2]] w fun e w' => e = .returned (.tuple #[.agg #[.int .i64 r1, .int .i64 r2, .int .i64 r3], errW r4]) ∧ Below w.heap.size w w' := by
  simp only [XOn.f, Option.some.injEq, Prod.mk.injEq] at h
  obtain ⟨rfl, rfl, rfl, rfl⟩ := h
  exact on_any a0 a1 (mk a2_0 a2_1 a2_2) w
end Go.Proofs.YtaeenefdbahfoaaDoor
