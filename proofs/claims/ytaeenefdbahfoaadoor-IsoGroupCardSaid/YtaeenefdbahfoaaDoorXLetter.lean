/- table.letter: how two, or three, stand. -/
import Derived.Test.YtaeenefdbahfoaaDoorHSmall
import Derived.Test.YtaeenefdbahfoaaDoorL0
namespace Go.Proofs.YtaeenefdbahfoaaDoor
open Go.RowKit Go.Proofs.YtaeenefdbahfoaaDoorW.PrintWords Go.Proofs.YtaeenefdbahfoaaDoorW.PrintLast Go.Proofs.YtaeenefdbahfoaaDoorW.PrintMore
open H
open Go.RowKit
set_option linter.unusedSimpArgs false

def XLetter.f (x : Int) : Option Int := (bits_OnesCount.f (IntKind.u64.wrap x)).bind fun t => (table_turned.f x 1).bind fun u => (bits_OnesCount.f (IntKind.u64.wrap (Go.bits .and .i64 x u))).bind fun b => (table_turned.f x 2).bind fun v =>
  some (if t = 3 ∧ b = 0 then 112 else if t = 3 ∧ b = 1 then 109 else if b > 0 then 111 else if Go.bits .and .i64 x v = 0 then 112 else 109)
set_option maxRecDepth 100000 in
set_option maxHeartbeats 4000000 in
theorem letter_walk (x t u b v : Int) (w : World) (h1 : bits_OnesCount.f (IntKind.u64.wrap x) = some t) (h2 : table_turned.f x 1 = some u) (h3 : bits_OnesCount.f (IntKind.u64.wrap (Go.bits .and .i64 x u)) = some b) (h4 : table_turned.f x 2 = some v) :
    Calls Tryd.prog 109 #[.int .i64 x] w fun e w' => e = .returned (.int .u8 (if t = 3 ∧ b = 0 then 112 else if t = 3 ∧ b = 1 then 109 else if b > 0 then 111 else if Go.bits .and .i64 x v = 0 then 112 else 109)) ∧ Below w.heap.size w w' := by
  have c1 := fun W => bits_OnesCount.calls (IntKind.u64.wrap x) t W h1
  have c2 := fun W => table_turned.calls x 1 u W h2
  have c3 := fun W => bits_OnesCount.calls (IntKind.u64.wrap (Go.bits .and .i64 x u)) b W h3
  have c4 := fun W => table_turned.calls x 2 v W h4
  clear h1 h2 h3 h4
  generalize hy : Go.bits .and .i64 x u = y at c3
  generalize hz : Go.bits .and .i64 x v = z
  have HB0 := Aside0.mk (Below.refl w.heap.size w)
  have key : ∀ r : Int, (if t = 3 ∧ b = 0 then 112 else if t = 3 ∧ b = 1 then 109 else if b > 0 then 111 else if z = 0 then 112 else 109) = r →
      Calls Tryd.prog 109 #[.int .i64 x] w fun e w' => e = .returned (.int .u8 r) ∧ Below w.heap.size w w' := by
    intro r hr
    have HR := Aside0.mk hr
    clear hr
    go_enter Tryd.func109, Tryd.ntmps109
    go_wp2_with fail
    refine (c1 _).mono ?_
    rintro e w1 ⟨rfl, hd1⟩
    have HB1 := Aside0.mk (hd1.below : Below w.heap.size w w1)
    clear hd1
    by_cases ht : t = 3
    · subst ht
      go_wp2_with fail
      refine (c2 _).mono ?_
      rintro e w2 ⟨rfl, hd2⟩
      have HB2 := Aside0.mk (HB1.out.trans ((hd2.below).mono HB1.out.size))
      clear hd2
      go_wp2_with fail
      refine (c3 _).mono ?_
      rintro e w3 ⟨rfl, hd3⟩
      have HB3 := Aside0.mk (HB2.out.trans ((hd3.below).mono HB2.out.size))
      clear hd3
      by_cases hb0 : b = 0
      · subst hb0
        go_wp2
        go_ret
        exact ⟨by rw [← HR.out]; simp, HB3.out⟩
      · have e0 : (b == 0) = false := beq_eq_false_iff_ne.2 hb0
        by_cases hb1 : b = 1
        · subst hb1
          go_wp2
          go_ret
          exact ⟨by rw [← HR.out]; simp, HB3.out⟩
        · have e1 : (b == 1) = false := beq_eq_false_iff_ne.2 hb1
          by_cases hbp : b > 0
          · go_wp2
            go_ret
            exact ⟨by rw [← HR.out]; simp [hb0, hb1, hbp], HB3.out⟩
          · by_cases hz0 : z = 0
            · have ez : (z != 0) = false := by simp [hz0]
              go_wp2_with fail
              refine (c4 _).mono ?_
              rintro e w4 ⟨rfl, hd4⟩
              have HB4 := Aside0.mk (HB3.out.trans ((hd4.below).mono HB3.out.size))
              clear hd4
              go_wp2
              go_ret
              exact ⟨by rw [← HR.out]; simp [hb0, hb1, hbp, hz0], HB4.out⟩
            · have ez : (z != 0) = true := by simp [hz0]
              go_wp2_with fail
              refine (c4 _).mono ?_
              rintro e w4 ⟨rfl, hd4⟩
              have HB4 := Aside0.mk (HB3.out.trans ((hd4.below).mono HB3.out.size))
              clear hd4
              go_wp2
              go_ret
              exact ⟨by rw [← HR.out]; simp [hb0, hb1, hbp, hz0], HB4.out⟩
    · have et : (t == 3) = false := beq_eq_false_iff_ne.2 ht
      go_wp2_with fail
      refine (c2 _).mono ?_
      rintro e w2 ⟨rfl, hd2⟩
      have HB2 := Aside0.mk (HB1.out.trans ((hd2.below).mono HB1.out.size))
      clear hd2
      go_wp2_with fail
      refine (c3 _).mono ?_
      rintro e w3 ⟨rfl, hd3⟩
      have HB3 := Aside0.mk (HB2.out.trans ((hd3.below).mono HB2.out.size))
      clear hd3
      by_cases hbp : b > 0
      · go_wp2
        go_ret
        exact ⟨by rw [← HR.out]; simp [ht, hbp], HB3.out⟩
      · by_cases hz0 : z = 0
        · have ez : (z != 0) = false := by simp [hz0]
          go_wp2_with fail
          refine (c4 _).mono ?_
          rintro e w4 ⟨rfl, hd4⟩
          have HB4 := Aside0.mk (HB3.out.trans ((hd4.below).mono HB3.out.size))
          clear hd4
          go_wp2
          go_ret
          exact ⟨by rw [← HR.out]; simp [ht, hbp, hz0], HB4.out⟩
        · have ez : (z != 0) = true := by simp [hz0]
          go_wp2_with fail
          refine (c4 _).mono ?_
          rintro e w4 ⟨rfl, hd4⟩
          have HB4 := Aside0.mk (HB3.out.trans ((hd4.below).mono HB3.out.size))
          clear hd4
          go_wp2
          go_ret
          exact ⟨by rw [← HR.out]; simp [ht, hbp, hz0], HB4.out⟩
  exact key _ rfl
theorem XLetter.calls (a0 : Int) (r : Int) (w : World) (h : XLetter.f a0 = some r) :
    Calls Tryd.prog 109 #[.int .i64 a0] w fun e w' => e = .returned (.int .u8 r) ∧ Below w.heap.size w w' := by
  unfold XLetter.f at h
  obtain ⟨t, h1, h⟩ := Option.bind_eq_some_iff.1 h
  obtain ⟨u, h2, h⟩ := Option.bind_eq_some_iff.1 h
  obtain ⟨b, h3, h⟩ := Option.bind_eq_some_iff.1 h
  obtain ⟨v, h4, h⟩ := Option.bind_eq_some_iff.1 h
  obtain rfl := Option.some.inj h
  exact letter_walk a0 t u b v w h1 h2 h3 h4
end Go.Proofs.YtaeenefdbahfoaaDoor
