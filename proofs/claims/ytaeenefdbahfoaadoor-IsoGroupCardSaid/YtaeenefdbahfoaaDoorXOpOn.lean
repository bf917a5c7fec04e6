/- (Operator).On, as the printed texts call it. -/
import Derived.Test.YtaeenefdbahfoaaDoorOpOn
namespace Go.Proofs.YtaeenefdbahfoaaDoor
open Go.RowKit Go.Proofs.YtaeenefdbahfoaaDoorW.PrintWords Go.Proofs.YtaeenefdbahfoaaDoorW.PrintLast Go.Proofs.YtaeenefdbahfoaaDoorW.PrintMore
open H
def XOpOn.f (o a b : Int) : Option (Int × Int × Option Int) :=
  some (if 0 ≤ o ∧ o < 12 then (if goodP a b then (if goodP (onP o a b).1 (onP o a b).2 then ((onP o a b).1, (onP o a b).2, none) else (0, 0, some 6)) else (0, 0, some 6)) else (0, 0, some 4))
theorem XOpOn.calls (a0 : Int) (a1_0 : Int) (a1_1 : Int) (r1 : Int) (r2 : Int) (r3 : Option Int) (w : World) (h : XOpOn.f a0 a1_0 a1_1 = some (r1, r2, r3)) :
    Calls Tryd.prog 90 #[.int .i64 a0, .agg #[.int .i64 a1_0, .int .i64 a1_1]] w fun e w' => e = .returned (.tuple #[.agg #[.int .i64 r1, .int .i64 r2], errW r3]) ∧ Below w.heap.size w w' := by
  refine (opOn_any a0 a1_0 a1_1 w).mono ?_
  rintro e w' ⟨rfl, hb⟩
  refine ⟨?_, hb⟩
  have h' := Option.some.inj h
  unfold opOnR
  by_cases h1 : 0 ≤ a0 ∧ a0 < 12
  · rw [if_pos h1] at h' ⊢
    by_cases h2 : goodP a1_0 a1_1
    · rw [if_pos h2] at h' ⊢
      by_cases h3 : goodP (onP a0 a1_0 a1_1).1 (onP a0 a1_0 a1_1).2
      · rw [if_pos h3] at h' ⊢
        simp only [Prod.mk.injEq] at h'
        obtain ⟨rfl, rfl, rfl⟩ := h'
        rfl
      · rw [if_neg h3] at h' ⊢
        simp only [Prod.mk.injEq] at h'
        obtain ⟨rfl, rfl, rfl⟩ := h'
        rfl
    · rw [if_neg h2] at h' ⊢
      simp only [Prod.mk.injEq] at h'
      obtain ⟨rfl, rfl, rfl⟩ := h'
      rfl
  · rw [if_neg h1] at h' ⊢
    simp only [Prod.mk.injEq] at h'
    obtain ⟨rfl, rfl, rfl⟩ := h'
    rfl
end Go.Proofs.YtaeenefdbahfoaaDoor
