/- Some of chapter 3: to the number. -/
import Derived.Test.YtilhadckmhphgaaDoorL0
import Derived.Test.YtilhadckmhphgaaDoorH0
namespace Go.Proofs.YtilhadckmhphgaaDoor
open Go.RowKit Go.Proofs.YtilhadckmhphgaaDoorW.PrintWords Go.Proofs.YtilhadckmhphgaaDoorW.PrintLast Go.Proofs.YtilhadckmhphgaaDoorW.PrintMore
open H
def XSome3.f (l a b h : Int) : Option (Int × Int × Int) := some (a.tmod 100, b.tmod 100, if l = 1 then 0 else h % 2)
set_option maxHeartbeats 1000000 in
theorem XSome3.calls (a0 : Int) (a1_0 : Int) (a1_1 : Int) (a1_2 : Int) (r1 : Int) (r2 : Int) (r3 : Int) (w : World) (h : XSome3.f a0 a1_0 a1_1 a1_2 = some (r1, r2, r3)) :
    Calls Tryd.prog 7 #[.int .i64 a0, .agg #[.int .i64 a1_0, .int .i64 a1_1, .int .i64 a1_2]] w fun e w' => e = .returned (.agg #[.int .i64 r1, .int .i64 r2, .int .i64 r3]) ∧ Below w.heap.size w w' := by
  simp only [XSome3.f, Option.some.injEq, Prod.mk.injEq] at h
  obtain ⟨rfl, rfl, rfl⟩ := h
  have ha1 := tmod_range a1_0 100 (by omega)
  have hb1 := tmod_range a1_1 100 (by omega)
  have hb := and_1 a1_2
  generalize hx : bits BinOp.and IntKind.i64 a1_2 1 = x at hb
  by_cases hl : a0 = 1
  · rw [if_pos hl]
    go_enter Tryd.func7, Tryd.ntmps7
    go_wp2
    refine bodyPost_ret (v := .agg #[.int .i64 (a1_0.tmod 100), .int .i64 (a1_1.tmod 100), .int .i64 0]) (by simp [results, Tryd.results18, go_sem]) rfl ?_
    go_wp2
    exact bodyPost_ret (v := .agg #[.int .i64 (a1_0.tmod 100), .int .i64 (a1_1.tmod 100), .int .i64 0]) (by simp [results, Tryd.results7, go_sem]) rfl ⟨rfl, (by with_reducible repeat (first | apply below_alloc | apply pw_below_drewN | apply below_drew | refine bset ?_ _ _ (by omega) _ | exact Below.refl _ _))⟩
  · rw [if_neg hl]
    have HX := Aside0.mk hb
    clear hb
    go_enter Tryd.func7, Tryd.ntmps7
    go_wp2
    refine bodyPost_ret (v := .agg #[.int .i64 (a1_0.tmod 100), .int .i64 (a1_1.tmod 100), .int .i64 x]) (by simp [results, Tryd.results18, go_sem]) rfl ?_
    go_wp2
    exact bodyPost_ret (v := .agg #[.int .i64 (a1_0.tmod 100), .int .i64 (a1_1.tmod 100), .int .i64 x]) (by simp [results, Tryd.results7, go_sem]) rfl ⟨by rw [← HX.out], (by with_reducible repeat (first | apply below_alloc | apply pw_below_drewN | apply below_drew | refine bset ?_ _ _ (by omega) _ | exact Below.refl _ _))⟩
end Go.Proofs.YtilhadckmhphgaaDoor
