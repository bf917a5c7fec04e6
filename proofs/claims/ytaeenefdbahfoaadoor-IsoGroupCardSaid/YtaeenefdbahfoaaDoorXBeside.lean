/- Beside, as the printed texts call it. -/
import Derived.Test.YtaeenefdbahfoaaDoorPure3
namespace Go.Proofs.YtaeenefdbahfoaaDoor
open Go.RowKit Go.Proofs.YtaeenefdbahfoaaDoorW.PrintWords Go.Proofs.YtaeenefdbahfoaaDoorW.PrintLast Go.Proofs.YtaeenefdbahfoaaDoorW.PrintMore
open H
open Go.Shelf Go.RowKit Go.Lib Go.Sort

set_option maxRecDepth 100000 in
set_option maxHeartbeats 2000000 in
theorem beside_refused (l a b h c : Int) (w : World) (hc : checkR l a b h = some c) :
    Calls Tryd.prog 89 #[.int .i64 l, .agg #[.int .i64 a, .int .i64 b, .int .i64 h]] w fun e w' => e = .returned (.tuple #[.slice none 0 0, errW (some c)]) ∧ Below w.heap.size w w' := by
  have hck := fun W => check_any l a b h W
  simp only [hc, errW_some] at hck ⊢
  go_enter Tryd.func89, Tryd.ntmps89
  go_wp2_with fail
  obtain ⟨w1, hw1, hcc, hsz, hB1⟩ := one_new w #[.int .i64 a, .int .i64 b, .int .i64 h] 65
  rw [← hw1]
  clear hw1
  have d0 : w1.cell? ⟨w.heap.size, 0, none⟩ = some (.int .i64 a) := hcc 0 _ rfl
  have d1 : w1.cell? ⟨w.heap.size, 1, none⟩ = some (.int .i64 b) := hcc 1 _ rfl
  have d2 : w1.cell? ⟨w.heap.size, 2, none⟩ = some (.int .i64 h) := hcc 2 _ rfl
  have HB1 := Aside0.mk hB1
  clear hcc hB1
  go_wp2_with (go_at_call 81; refine (hck _).mono ?_; rintro e w2 ⟨rfl, hb2⟩; have HB2 := Aside0.mk (HB1.out.trans (hb2.mono HB1.out.size)); clear hb2)
  go_ret2
  exact ⟨rfl, HB2.out⟩

/-- those beside a cell, or the code -/
def XBeside.f (l a b h : Int) : Option (List S65 × Option Int) :=
  some (match checkR l a b h with
    | some c => ([], some c)
    | none => if ((offs l h).map (sh a b)).all (fun x => decide (goodP x.f0.f0 x.f0.f1)) = true then ((offs l h).map (sh a b), none) else ([], some 6))

theorem XBeside.calls (a0 : Int) (a1_0 : Int) (a1_1 : Int) (a1_2 : Int) (r1 : List S65) (r2 : Option Int) (w : World) (hGSix : Six w) (h : XBeside.f a0 a1_0 a1_1 a1_2 = some (r1, r2)) :
    Calls Tryd.prog 89 #[.int .i64 a0, .agg #[.int .i64 a1_0, .int .i64 a1_1, .int .i64 a1_2]] w fun e w' => ∃ v0_ : Value, e = .returned (.tuple #[v0_, errW r2]) ∧ Kd.R k65 65 w' w.heap.size (fun _ => True) v0_ r1 ∧ Below w.heap.size w w' := by
  have h' := Option.some.inj h
  clear h
  cases hc : checkR a0 a1_0 a1_1 a1_2 with
  | some c =>
    rw [hc] at h'
    obtain ⟨rfl, rfl⟩ := Prod.mk.inj h'
    exact (beside_refused _ _ _ _ c w hc).mono fun e w' ⟨he, hb⟩ => ⟨_, he, Kd.R_nil _ _ _ _ _, hb⟩
  | none =>
    rw [hc] at h'
    obtain ⟨q1, q2, q3, q4, q5⟩ := checkR_ok hc
    refine (beside_any a0 a1_0 a1_1 a1_2 w hGSix q1 q2 q4 q5 q3).mono ?_
    rintro e w' ⟨hv, hb⟩
    by_cases hall : ((offs a0 a1_2).map (sh a1_0 a1_1)).all (fun x => decide (goodP x.f0.f0 x.f0.f1)) = true
    · simp only [hall, ↓reduceIte] at h'
      obtain ⟨rfl, rfl⟩ := Prod.mk.inj h'
      rcases hv with ⟨_, v, rfl, hR⟩ | ⟨hbad, _⟩
      · exact ⟨v, rfl, hR, hb⟩
      · exact absurd (fun x hx => of_decide_eq_true (List.all_eq_true.1 hall x hx)) hbad
    · simp only [hall] at h'
      obtain ⟨rfl, rfl⟩ := Prod.mk.inj h'
      rcases hv with ⟨hgood, _⟩ | ⟨_, rfl⟩
      · exact absurd (List.all_eq_true.2 fun x hx => decide_eq_true (hgood x hx)) hall
      · exact ⟨_, rfl, Kd.R_nil _ _ _ _ _, hb⟩
end Go.Proofs.YtaeenefdbahfoaaDoor
