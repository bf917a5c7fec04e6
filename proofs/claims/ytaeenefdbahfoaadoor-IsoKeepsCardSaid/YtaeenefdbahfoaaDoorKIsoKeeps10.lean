/- Parts of the proof (IsoKeeps), merged out of our texts by wip/tools/pack.py: Hhoneycomblaw07IsoKeeps. -/
import Derived.Test.YtaeenefdbahfoaaDoorKIsoKeeps1
import Derived.Test.YtaeenefdbahfoaaDoorKIsoKeeps2
import Derived.Test.YtaeenefdbahfoaaDoorKIsoKeeps6
import Derived.Test.YtaeenefdbahfoaaDoorKIsoKeeps3
import Derived.Test.YtaeenefdbahfoaaDoorKIsoKeeps8
import Derived.Test.YtaeenefdbahfoaaDoorKIsoKeeps9
import Derived.Test.YtaeenefdbahfoaaDoorKIsoKeeps4
namespace Go.Proofs.YtaeenefdbahfoaaDoor.H
open Go.RowKit Go.Proofs.YtaeenefdbahfoaaDoorW.PrintWords Go.Proofs.YtaeenefdbahfoaaDoorW.PrintLast Go.Proofs.YtaeenefdbahfoaaDoorW.PrintMore
attribute [local go_sem] max2_int min2_int max_two min_two max_three min_three max_four min_four
set_option linter.unusedVariables false
set_option linter.unusedSimpArgs false
def honeycomblaw07_IsoKeeps.f (k : Nat) (a0_0 : Int) (a0_1 : Int) (a0_2 : Int) (a0_3 : Int) (a0_4 : Int) (a1 : Int) : Option (Bool) := (XAwake07.f).bind fun t274 => (if t274 = true then ((honeycomblaw05_Own.f a0_0 a0_1 a0_2 a0_3 a0_4).bind fun bt275 => ((XSome5.f a0_0 a0_1 a0_2 a0_3 a0_4).bind fun bt280 => ((iso_Check.f k bt275.1 bt275.2.1 bt275.2.2.1 bt275.2.2.2.1 bt275.2.2.2.2).bind fun bt287 => ((XTold5.f bt275.1 bt275.2.1 bt275.2.2.1 bt275.2.2.2.1 bt275.2.2.2.2).bind fun bt294 => ((honeycombref05_Check.f k bt294.1 bt294.2.1 bt294.2.2).bind fun t301 => (if t301 = 0 then (if a1 ≥ 0 then (if a1 < 12 then ((XTold5.f bt280.1 bt280.2.1 bt280.2.2.1 bt280.2.2.2.1 bt280.2.2.2.2).bind fun bt304 => ((honeycombref07_Keeps.f k bt304.1 bt304.2.1 bt304.2.2 a1).bind fun t311 => (if bt287.2.2.2.isNone = true then ((iso_Keeps.f k bt280.1 bt280.2.1 bt280.2.2.1 bt280.2.2.2.1 bt280.2.2.2.2 a1).bind fun t313 => (some (t313 == t311))) else (some false)))) else (if bt287.2.2.2.isNone = true then ((iso_Keeps.f k bt280.1 bt280.2.1 bt280.2.2.1 bt280.2.2.2.1 bt280.2.2.2.2 a1).bind fun t315 => (some (t315 == false))) else (some false))) else (if bt287.2.2.2.isNone = true then ((iso_Keeps.f k bt280.1 bt280.2.1 bt280.2.2.1 bt280.2.2.2.1 bt280.2.2.2.2 a1).bind fun t317 => (some (t317 == false))) else (some false))) else ((XCodeOf.f bt287.2.2.2).bind fun t302 => (if t302 = t301 then (if bt287.2.2.1 = true then (some false) else ((iso_Keeps.f k bt275.1 bt275.2.1 bt275.2.2.1 bt275.2.2.2.1 bt275.2.2.2.2 a1).bind fun t303 => (some (!t303)))) else (some false))))))))) else (some false))
def honeycomblaw07_IsoKeeps.T3 : Bool × List (List Nat × List Nat) := (true, [([], []), ([0], [0]), ([], []), ([2, 1], [2]), ([], []), ([], []), ([4, 1, 3, 0, 1, 4, 5], [1, 4]), ([5, 3, 6, 0, 1, 2, 3, 4, 5, 6], [3, 5])])
def honeycomblaw07_IsoKeeps.B3 : List Nat := [0, 1, 0, 7, 0, 0, 63, 127]
theorem honeycomblaw07_IsoKeeps.tab3 : rtab .any (opsOf Tryd.f11 3) = honeycomblaw07_IsoKeeps.T3 := by kernel_rfl
theorem honeycomblaw07_IsoKeeps.bits3 : waitsOk honeycomblaw07_IsoKeeps.T3.2 honeycomblaw07_IsoKeeps.B3 = true := by kernel_rfl
set_option maxHeartbeats 8000000 in
set_option maxRecDepth 100000 in
theorem honeycomblaw07_IsoKeeps.calls (k : Nat) (a0_0 : Int) (a0_1 : Int) (a0_2 : Int) (a0_3 : Int) (a0_4 : Int) (a1 : Int) (r : Bool) (w : World) (hGEt : Et w) (hGSix : Six w) (h : honeycomblaw07_IsoKeeps.f k a0_0 a0_1 a0_2 a0_3 a0_4 a1 = some r) (hr_ : r = true) :
  Calls Tryd.prog 11 #[.agg #[.int .i64 a0_0, .int .u64 a0_1, .int .u64 a0_2, .int .u64 a0_3, .int .u64 a0_4], .int .i64 a1] w fun e w' => e = .returned (.bool r) ∧ Below w.heap.size w w' := by
 have Hr_ := Aside0.mk hr_
 clear hr_
 have hu25 := Tryd.underlying25
 have hu29 := Tryd.underlying29
 have hu37 := Tryd.underlying37
 have hu39 := Tryd.underlying39
 have hu87 := Tryd.underlying87
 have HB := Aside0.mk (Below.refl w.heap.size w)
 have HGEt := Aside0.mk hGEt
 clear hGEt
 have HGSix := Aside0.mk hGSix
 clear hGSix
 have H : ((XAwake07.f).bind fun t274 => (if t274 = true then ((honeycomblaw05_Own.f a0_0 a0_1 a0_2 a0_3 a0_4).bind fun bt275 => ((XSome5.f a0_0 a0_1 a0_2 a0_3 a0_4).bind fun bt280 => ((iso_Check.f k bt275.1 bt275.2.1 bt275.2.2.1 bt275.2.2.2.1 bt275.2.2.2.2).bind fun bt287 => ((XTold5.f bt275.1 bt275.2.1 bt275.2.2.1 bt275.2.2.2.1 bt275.2.2.2.2).bind fun bt294 => ((honeycombref05_Check.f k bt294.1 bt294.2.1 bt294.2.2).bind fun t301 => (if t301 = 0 then (if a1 ≥ 0 then (if a1 < 12 then ((XTold5.f bt280.1 bt280.2.1 bt280.2.2.1 bt280.2.2.2.1 bt280.2.2.2.2).bind fun bt304 => ((honeycombref07_Keeps.f k bt304.1 bt304.2.1 bt304.2.2 a1).bind fun t311 => (if bt287.2.2.2.isNone = true then ((iso_Keeps.f k bt280.1 bt280.2.1 bt280.2.2.1 bt280.2.2.2.1 bt280.2.2.2.2 a1).bind fun t313 => (some (t313 == t311))) else (some false)))) else (if bt287.2.2.2.isNone = true then ((iso_Keeps.f k bt280.1 bt280.2.1 bt280.2.2.1 bt280.2.2.2.1 bt280.2.2.2.2 a1).bind fun t315 => (some (t315 == false))) else (some false))) else (if bt287.2.2.2.isNone = true then ((iso_Keeps.f k bt280.1 bt280.2.1 bt280.2.2.1 bt280.2.2.2.1 bt280.2.2.2.2 a1).bind fun t317 => (some (t317 == false))) else (some false))) else ((XCodeOf.f bt287.2.2.2).bind fun t302 => (if t302 = t301 then (if bt287.2.2.1 = true then (some false) else ((iso_Keeps.f k bt275.1 bt275.2.1 bt275.2.2.1 bt275.2.2.2.1 bt275.2.2.2.2 a1).bind fun t303 => (some (!t303)))) else (some false))))))))) else (some false))) = some r := h
 clear h
 replace H := Option.bind_eq_some_iff.mp H
 obtain ⟨t274, A30, H⟩ := H
 replace H : (if t274 = true then ((honeycomblaw05_Own.f a0_0 a0_1 a0_2 a0_3 a0_4).bind fun bt275 => ((XSome5.f a0_0 a0_1 a0_2 a0_3 a0_4).bind fun bt280 => ((iso_Check.f k bt275.1 bt275.2.1 bt275.2.2.1 bt275.2.2.2.1 bt275.2.2.2.2).bind fun bt287 => ((XTold5.f bt275.1 bt275.2.1 bt275.2.2.1 bt275.2.2.2.1 bt275.2.2.2.2).bind fun bt294 => ((honeycombref05_Check.f k bt294.1 bt294.2.1 bt294.2.2).bind fun t301 => (if t301 = 0 then (if a1 ≥ 0 then (if a1 < 12 then ((XTold5.f bt280.1 bt280.2.1 bt280.2.2.1 bt280.2.2.2.1 bt280.2.2.2.2).bind fun bt304 => ((honeycombref07_Keeps.f k bt304.1 bt304.2.1 bt304.2.2 a1).bind fun t311 => (if bt287.2.2.2.isNone = true then ((iso_Keeps.f k bt280.1 bt280.2.1 bt280.2.2.1 bt280.2.2.2.1 bt280.2.2.2.2 a1).bind fun t313 => (some (t313 == t311))) else (some false)))) else (if bt287.2.2.2.isNone = true then ((iso_Keeps.f k bt280.1 bt280.2.1 bt280.2.2.1 bt280.2.2.2.1 bt280.2.2.2.2 a1).bind fun t315 => (some (t315 == false))) else (some false))) else (if bt287.2.2.2.isNone = true then ((iso_Keeps.f k bt280.1 bt280.2.1 bt280.2.2.1 bt280.2.2.2.1 bt280.2.2.2.2 a1).bind fun t317 => (some (t317 == false))) else (some false))) else ((XCodeOf.f bt287.2.2.2).bind fun t302 => (if t302 = t301 then (if bt287.2.2.1 = true then (some false) else ((iso_Keeps.f k bt275.1 bt275.2.1 bt275.2.2.1 bt275.2.2.2.1 bt275.2.2.2.2 a1).bind fun t303 => (some (!t303)))) else (some false))))))))) else (some false)) = some r := H
 have A3 := Aside0.mk A30
 clear A30
 by_cases c4 : t274 = true
 rotate_left
 ·
  replace c4 := Bool.eq_false_iff.mpr c4
  subst c4
  have H1 : (some false) = some r := by rw [if_neg (show ¬ (false = true) by decide)] at H; exact H
  clear H
  have H := H1
  clear H1
  exact absurd ((Option.some.inj H).trans Hr_.out) (by decide)
 subst c4
 have H1 : ((honeycomblaw05_Own.f a0_0 a0_1 a0_2 a0_3 a0_4).bind fun bt275 => ((XSome5.f a0_0 a0_1 a0_2 a0_3 a0_4).bind fun bt280 => ((iso_Check.f k bt275.1 bt275.2.1 bt275.2.2.1 bt275.2.2.2.1 bt275.2.2.2.2).bind fun bt287 => ((XTold5.f bt275.1 bt275.2.1 bt275.2.2.1 bt275.2.2.2.1 bt275.2.2.2.2).bind fun bt294 => ((honeycombref05_Check.f k bt294.1 bt294.2.1 bt294.2.2).bind fun t301 => (if t301 = 0 then (if a1 ≥ 0 then (if a1 < 12 then ((XTold5.f bt280.1 bt280.2.1 bt280.2.2.1 bt280.2.2.2.1 bt280.2.2.2.2).bind fun bt304 => ((honeycombref07_Keeps.f k bt304.1 bt304.2.1 bt304.2.2 a1).bind fun t311 => (if bt287.2.2.2.isNone = true then ((iso_Keeps.f k bt280.1 bt280.2.1 bt280.2.2.1 bt280.2.2.2.1 bt280.2.2.2.2 a1).bind fun t313 => (some (t313 == t311))) else (some false)))) else (if bt287.2.2.2.isNone = true then ((iso_Keeps.f k bt280.1 bt280.2.1 bt280.2.2.1 bt280.2.2.2.1 bt280.2.2.2.2 a1).bind fun t315 => (some (t315 == false))) else (some false))) else (if bt287.2.2.2.isNone = true then ((iso_Keeps.f k bt280.1 bt280.2.1 bt280.2.2.1 bt280.2.2.2.1 bt280.2.2.2.2 a1).bind fun t317 => (some (t317 == false))) else (some false))) else ((XCodeOf.f bt287.2.2.2).bind fun t302 => (if t302 = t301 then (if bt287.2.2.1 = true then (some false) else ((iso_Keeps.f k bt275.1 bt275.2.1 bt275.2.2.1 bt275.2.2.2.1 bt275.2.2.2.2 a1).bind fun t303 => (some (!t303)))) else (some false))))))))) = some r := by rw [if_pos rfl] at H; exact H
 clear H
 have H := H1
 clear H1
 replace H := Option.bind_eq_some_iff.mp H
 obtain ⟨⟨t275, t276, t277, t278, t279⟩, A50, H⟩ := H
 replace H : ((XSome5.f a0_0 a0_1 a0_2 a0_3 a0_4).bind fun bt280 => ((iso_Check.f k t275 t276 t277 t278 t279).bind fun bt287 => ((XTold5.f t275 t276 t277 t278 t279).bind fun bt294 => ((honeycombref05_Check.f k bt294.1 bt294.2.1 bt294.2.2).bind fun t301 => (if t301 = 0 then (if a1 ≥ 0 then (if a1 < 12 then ((XTold5.f bt280.1 bt280.2.1 bt280.2.2.1 bt280.2.2.2.1 bt280.2.2.2.2).bind fun bt304 => ((honeycombref07_Keeps.f k bt304.1 bt304.2.1 bt304.2.2 a1).bind fun t311 => (if bt287.2.2.2.isNone = true then ((iso_Keeps.f k bt280.1 bt280.2.1 bt280.2.2.1 bt280.2.2.2.1 bt280.2.2.2.2 a1).bind fun t313 => (some (t313 == t311))) else (some false)))) else (if bt287.2.2.2.isNone = true then ((iso_Keeps.f k bt280.1 bt280.2.1 bt280.2.2.1 bt280.2.2.2.1 bt280.2.2.2.2 a1).bind fun t315 => (some (t315 == false))) else (some false))) else (if bt287.2.2.2.isNone = true then ((iso_Keeps.f k bt280.1 bt280.2.1 bt280.2.2.1 bt280.2.2.2.1 bt280.2.2.2.2 a1).bind fun t317 => (some (t317 == false))) else (some false))) else ((XCodeOf.f bt287.2.2.2).bind fun t302 => (if t302 = t301 then (if bt287.2.2.1 = true then (some false) else ((iso_Keeps.f k t275 t276 t277 t278 t279 a1).bind fun t303 => (some (!t303)))) else (some false)))))))) = some r := H
 have A5 := Aside0.mk A50
 clear A50
 replace H := Option.bind_eq_some_iff.mp H
 obtain ⟨⟨t280, t281, t282, t283, t284⟩, A60, H⟩ := H
 replace H : ((iso_Check.f k t275 t276 t277 t278 t279).bind fun bt287 => ((XTold5.f t275 t276 t277 t278 t279).bind fun bt294 => ((honeycombref05_Check.f k bt294.1 bt294.2.1 bt294.2.2).bind fun t301 => (if t301 = 0 then (if a1 ≥ 0 then (if a1 < 12 then ((XTold5.f t280 t281 t282 t283 t284).bind fun bt304 => ((honeycombref07_Keeps.f k bt304.1 bt304.2.1 bt304.2.2 a1).bind fun t311 => (if bt287.2.2.2.isNone = true then ((iso_Keeps.f k t280 t281 t282 t283 t284 a1).bind fun t313 => (some (t313 == t311))) else (some false)))) else (if bt287.2.2.2.isNone = true then ((iso_Keeps.f k t280 t281 t282 t283 t284 a1).bind fun t315 => (some (t315 == false))) else (some false))) else (if bt287.2.2.2.isNone = true then ((iso_Keeps.f k t280 t281 t282 t283 t284 a1).bind fun t317 => (some (t317 == false))) else (some false))) else ((XCodeOf.f bt287.2.2.2).bind fun t302 => (if t302 = t301 then (if bt287.2.2.1 = true then (some false) else ((iso_Keeps.f k t275 t276 t277 t278 t279 a1).bind fun t303 => (some (!t303)))) else (some false))))))) = some r := H
 have A6 := Aside0.mk A60
 clear A60
 replace H := Option.bind_eq_some_iff.mp H
 obtain ⟨⟨t287, t290, t291, t292⟩, A70, H⟩ := H
 replace H : ((XTold5.f t275 t276 t277 t278 t279).bind fun bt294 => ((honeycombref05_Check.f k bt294.1 bt294.2.1 bt294.2.2).bind fun t301 => (if t301 = 0 then (if a1 ≥ 0 then (if a1 < 12 then ((XTold5.f t280 t281 t282 t283 t284).bind fun bt304 => ((honeycombref07_Keeps.f k bt304.1 bt304.2.1 bt304.2.2 a1).bind fun t311 => (if t292.isNone = true then ((iso_Keeps.f k t280 t281 t282 t283 t284 a1).bind fun t313 => (some (t313 == t311))) else (some false)))) else (if t292.isNone = true then ((iso_Keeps.f k t280 t281 t282 t283 t284 a1).bind fun t315 => (some (t315 == false))) else (some false))) else (if t292.isNone = true then ((iso_Keeps.f k t280 t281 t282 t283 t284 a1).bind fun t317 => (some (t317 == false))) else (some false))) else ((XCodeOf.f t292).bind fun t302 => (if t302 = t301 then (if t291 = true then (some false) else ((iso_Keeps.f k t275 t276 t277 t278 t279 a1).bind fun t303 => (some (!t303)))) else (some false)))))) = some r := H
 have A7 := Aside0.mk A70
 clear A70
 replace H := Option.bind_eq_some_iff.mp H
 obtain ⟨⟨t294, t295, t298⟩, A80, H⟩ := H
 replace H : ((honeycombref05_Check.f k t294 t295 t298).bind fun t301 => (if t301 = 0 then (if a1 ≥ 0 then (if a1 < 12 then ((XTold5.f t280 t281 t282 t283 t284).bind fun bt304 => ((honeycombref07_Keeps.f k bt304.1 bt304.2.1 bt304.2.2 a1).bind fun t311 => (if t292.isNone = true then ((iso_Keeps.f k t280 t281 t282 t283 t284 a1).bind fun t313 => (some (t313 == t311))) else (some false)))) else (if t292.isNone = true then ((iso_Keeps.f k t280 t281 t282 t283 t284 a1).bind fun t315 => (some (t315 == false))) else (some false))) else (if t292.isNone = true then ((iso_Keeps.f k t280 t281 t282 t283 t284 a1).bind fun t317 => (some (t317 == false))) else (some false))) else ((XCodeOf.f t292).bind fun t302 => (if t302 = t301 then (if t291 = true then (some false) else ((iso_Keeps.f k t275 t276 t277 t278 t279 a1).bind fun t303 => (some (!t303)))) else (some false))))) = some r := H
 have A8 := Aside0.mk A80
 clear A80
 replace H := Option.bind_eq_some_iff.mp H
 obtain ⟨t301, A90, H⟩ := H
 replace H : (if t301 = 0 then (if a1 ≥ 0 then (if a1 < 12 then ((XTold5.f t280 t281 t282 t283 t284).bind fun bt304 => ((honeycombref07_Keeps.f k bt304.1 bt304.2.1 bt304.2.2 a1).bind fun t311 => (if t292.isNone = true then ((iso_Keeps.f k t280 t281 t282 t283 t284 a1).bind fun t313 => (some (t313 == t311))) else (some false)))) else (if t292.isNone = true then ((iso_Keeps.f k t280 t281 t282 t283 t284 a1).bind fun t315 => (some (t315 == false))) else (some false))) else (if t292.isNone = true then ((iso_Keeps.f k t280 t281 t282 t283 t284 a1).bind fun t317 => (some (t317 == false))) else (some false))) else ((XCodeOf.f t292).bind fun t302 => (if t302 = t301 then (if t291 = true then (some false) else ((iso_Keeps.f k t275 t276 t277 t278 t279 a1).bind fun t303 => (some (!t303)))) else (some false)))) = some r := H
 have A9 := Aside0.mk A90
 clear A90
 go_enter Tryd.func11, Tryd.ntmps11
 try go_wp2_with (first | ((with_reducible refine gate_dst (N := 2) rfl ?_); refine bx_ 2 #[.int .i64 a0_0, .int .u64 a0_1, .int .u64 a0_2, .int .u64 a0_3, .int .u64 a0_4] 25 ?_; intro gb273 hg w16 hbox hb; have BK273 := Aside0.mk (hbox); have GW273 := Aside0.mk ((by rw [hg]; exact (below_size hb_) : w.heap.size ≤ gb273)); have GE273 := GW273; replace HB := Aside0.mk (below_step hb_ hb); clear hb hbox hg) | ((with_reducible refine gate_callee (f := 13) rfl ?_); refine goesL_ (some 12) rfl rfl Tryd.func13 (by kernel_rfl) rfl #[] rfl ar_ ?_; (with_reducible refine (XAwake07.calls  true _ ?side1 A3.out).mono ?_); (case side1 => exact HGSix.out.below (hg_ GE273.out)); rintro e w17 ⟨rfl, hb⟩; refine ⟨_, rfl, ?_⟩; replace BK273 := bb_ BK273.out hb; replace HB := Aside0.mk (below_step (hg_ GE273.out) hb); (try clear hb); (try clear hb2); (try clear hk); (try clear hi)))
 replace BK273 := Aside0.mk (blk_drew BK273.out)
 replace HB := Aside0.mk (below_drew1 HB.out)
 refine start_ (n := 8) (S := fun w' => w'.cell? ⟨gb273, 0, none⟩ = some (.int .i64 a0_0) ∧ w'.cell? ⟨gb273, 1, none⟩ = some (.int .u64 a0_1) ∧ w'.cell? ⟨gb273, 2, none⟩ = some (.int .u64 a0_2) ∧ w'.cell? ⟨gb273, 3, none⟩ = some (.int .u64 a0_3) ∧ w'.cell? ⟨gb273, 4, none⟩ = some (.int .u64 a0_4)) (ds := []) (m_ 8 0) (by kernel_rfl) rfl rfl ⟨(blk_cell BK273.out 0).trans rfl, (blk_cell BK273.out 1).trans rfl, (blk_cell BK273.out 2).trans rfl, (blk_cell BK273.out 3).trans rfl, (blk_cell BK273.out 4).trans rfl⟩ (fun hHeld => ?_); refine with_tabW honeycomblaw07_IsoKeeps.tab3 honeycomblaw07_IsoKeeps.bits3 (fun HT_ HW_ => ?_)
 generalize w17.drew = w18 at BK273 HB hHeld ⊢
 refine tq5_ 0 (some 14) (m_ 8 1) (h := ?_)
 refine tq5_ 2 (some 16) (m_ 8 5) (h := ?_)
 refine join_ (σ := Nat × Nat) 2 (m_ 8 63) (fun s_ => [(15, .agg #[.int .i64 t275, .int .u64 t276, .int .u64 t277, .int .u64 t278, .int .u64 t279]), (17, .agg #[.int .i64 t280, .int .u64 t281, .int .u64 t282, .int .u64 t283, .int .u64 t284]), (5, .pointer (some ⟨s_.1, 0, none⟩)), (6, .pointer (some ⟨s_.2, 0, none⟩))]) (fun s_ w' => (w'.cell? ⟨gb273, 0, none⟩ = some (.int .i64 a0_0) ∧ w'.cell? ⟨gb273, 1, none⟩ = some (.int .u64 a0_1) ∧ w'.cell? ⟨gb273, 2, none⟩ = some (.int .u64 a0_2) ∧ w'.cell? ⟨gb273, 3, none⟩ = some (.int .u64 a0_3) ∧ w'.cell? ⟨gb273, 4, none⟩ = some (.int .u64 a0_4)) ∧ (w'.heap[gb273]? = some (.cells #[.int .i64 a0_0, .int .u64 a0_1, .int .u64 a0_2, .int .u64 a0_3, .int .u64 a0_4] 25 (0, 0))) ∧ (w'.heap[s_.1]? = some (.cells #[.int .i64 0, .int .u64 0, .int .u64 0, .int .u64 0, .int .u64 0] 29 (0, 0))) ∧ (w'.heap[s_.2]? = some (.cells #[.int .i64 0, .int .u64 0, .int .u64 0, .int .u64 0, .int .u64 0] 29 (0, 0))) ∧ (w.heap.size ≤ s_.1) ∧ (w.heap.size ≤ s_.1) ∧ (gb273 ≠ s_.1) ∧ (s_.1 ≠ gb273) ∧ (s_.2 ≠ s_.1) ∧ (s_.1 ≠ s_.2) ∧ (w.heap.size ≤ s_.2) ∧ (w.heap.size ≤ s_.2) ∧ (gb273 ≠ s_.2) ∧ (s_.2 ≠ gb273) ∧ (Below w.heap.size w w')) ?_ ?_
 rotate_left
 ·
  intro hJ1_3_4_5
  refine join_ (σ := Nat) 3 (m_ 8 31) (fun s_ => [(15, .agg #[.int .i64 t275, .int .u64 t276, .int .u64 t277, .int .u64 t278, .int .u64 t279]), (17, .agg #[.int .i64 t280, .int .u64 t281, .int .u64 t282, .int .u64 t283, .int .u64 t284]), (5, .pointer (some ⟨s_, 0, none⟩))]) (fun s_ w' => (w'.cell? ⟨gb273, 0, none⟩ = some (.int .i64 a0_0) ∧ w'.cell? ⟨gb273, 1, none⟩ = some (.int .u64 a0_1) ∧ w'.cell? ⟨gb273, 2, none⟩ = some (.int .u64 a0_2) ∧ w'.cell? ⟨gb273, 3, none⟩ = some (.int .u64 a0_3) ∧ w'.cell? ⟨gb273, 4, none⟩ = some (.int .u64 a0_4)) ∧ (w'.heap[gb273]? = some (.cells #[.int .i64 a0_0, .int .u64 a0_1, .int .u64 a0_2, .int .u64 a0_3, .int .u64 a0_4] 25 (0, 0))) ∧ (w'.heap[s_]? = some (.cells #[.int .i64 0, .int .u64 0, .int .u64 0, .int .u64 0, .int .u64 0] 29 (0, 0))) ∧ (w.heap.size ≤ s_) ∧ (w.heap.size ≤ s_) ∧ (gb273 ≠ s_) ∧ (s_ ≠ gb273) ∧ (Below w.heap.size w w')) ?_ ?_
  rotate_left
  ·
   intro hJ1_3_4
   refine join_ (σ := Nat) 3 (m_ 8 47) (fun s_ => [(15, .agg #[.int .i64 t275, .int .u64 t276, .int .u64 t277, .int .u64 t278, .int .u64 t279]), (17, .agg #[.int .i64 t280, .int .u64 t281, .int .u64 t282, .int .u64 t283, .int .u64 t284]), (6, .pointer (some ⟨s_, 0, none⟩))]) (fun s_ w' => (w'.cell? ⟨gb273, 0, none⟩ = some (.int .i64 a0_0) ∧ w'.cell? ⟨gb273, 1, none⟩ = some (.int .u64 a0_1) ∧ w'.cell? ⟨gb273, 2, none⟩ = some (.int .u64 a0_2) ∧ w'.cell? ⟨gb273, 3, none⟩ = some (.int .u64 a0_3) ∧ w'.cell? ⟨gb273, 4, none⟩ = some (.int .u64 a0_4)) ∧ (w'.heap[gb273]? = some (.cells #[.int .i64 a0_0, .int .u64 a0_1, .int .u64 a0_2, .int .u64 a0_3, .int .u64 a0_4] 25 (0, 0))) ∧ (w'.heap[s_]? = some (.cells #[.int .i64 0, .int .u64 0, .int .u64 0, .int .u64 0, .int .u64 0] 29 (0, 0))) ∧ (w.heap.size ≤ s_) ∧ (w.heap.size ≤ s_) ∧ (gb273 ≠ s_) ∧ (s_ ≠ gb273) ∧ (Below w.heap.size w w')) ?_ ?_
   rotate_left
   ·
    intro hJ1_3_5
    refine join_ (σ := Nat × Nat) 3 (m_ 8 55) (fun s_ => [(15, .agg #[.int .i64 t275, .int .u64 t276, .int .u64 t277, .int .u64 t278, .int .u64 t279]), (5, .pointer (some ⟨s_.1, 0, none⟩)), (6, .pointer (some ⟨s_.2, 0, none⟩))]) (fun s_ w' => (w'.cell? ⟨gb273, 0, none⟩ = some (.int .i64 a0_0) ∧ w'.cell? ⟨gb273, 1, none⟩ = some (.int .u64 a0_1) ∧ w'.cell? ⟨gb273, 2, none⟩ = some (.int .u64 a0_2) ∧ w'.cell? ⟨gb273, 3, none⟩ = some (.int .u64 a0_3) ∧ w'.cell? ⟨gb273, 4, none⟩ = some (.int .u64 a0_4)) ∧ (w'.heap[gb273]? = some (.cells #[.int .i64 a0_0, .int .u64 a0_1, .int .u64 a0_2, .int .u64 a0_3, .int .u64 a0_4] 25 (0, 0))) ∧ (w'.heap[s_.1]? = some (.cells #[.int .i64 0, .int .u64 0, .int .u64 0, .int .u64 0, .int .u64 0] 29 (0, 0))) ∧ (w'.heap[s_.2]? = some (.cells #[.int .i64 0, .int .u64 0, .int .u64 0, .int .u64 0, .int .u64 0] 29 (0, 0))) ∧ (w.heap.size ≤ s_.1) ∧ (w.heap.size ≤ s_.1) ∧ (gb273 ≠ s_.1) ∧ (s_.1 ≠ gb273) ∧ (s_.2 ≠ s_.1) ∧ (s_.1 ≠ s_.2) ∧ (w.heap.size ≤ s_.2) ∧ (w.heap.size ≤ s_.2) ∧ (gb273 ≠ s_.2) ∧ (s_.2 ≠ gb273) ∧ (Below w.heap.size w w')) ?_ ?_
    rotate_left
    ·
     intro hJ1_4_5
     refine join_ (σ := Unit) 4 (m_ 8 15) (fun s_ => [(15, .agg #[.int .i64 t275, .int .u64 t276, .int .u64 t277, .int .u64 t278, .int .u64 t279]), (17, .agg #[.int .i64 t280, .int .u64 t281, .int .u64 t282, .int .u64 t283, .int .u64 t284])]) (fun s_ w' => (w'.cell? ⟨gb273, 0, none⟩ = some (.int .i64 a0_0) ∧ w'.cell? ⟨gb273, 1, none⟩ = some (.int .u64 a0_1) ∧ w'.cell? ⟨gb273, 2, none⟩ = some (.int .u64 a0_2) ∧ w'.cell? ⟨gb273, 3, none⟩ = some (.int .u64 a0_3) ∧ w'.cell? ⟨gb273, 4, none⟩ = some (.int .u64 a0_4)) ∧ (w'.heap[gb273]? = some (.cells #[.int .i64 a0_0, .int .u64 a0_1, .int .u64 a0_2, .int .u64 a0_3, .int .u64 a0_4] 25 (0, 0))) ∧ (Below w.heap.size w w')) ?_ ?_
     rotate_left
     ·
      intro hJ1_3
      refine join_ (σ := Nat) 4 (m_ 8 23) (fun s_ => [(15, .agg #[.int .i64 t275, .int .u64 t276, .int .u64 t277, .int .u64 t278, .int .u64 t279]), (5, .pointer (some ⟨s_, 0, none⟩))]) (fun s_ w' => (w'.cell? ⟨gb273, 0, none⟩ = some (.int .i64 a0_0) ∧ w'.cell? ⟨gb273, 1, none⟩ = some (.int .u64 a0_1) ∧ w'.cell? ⟨gb273, 2, none⟩ = some (.int .u64 a0_2) ∧ w'.cell? ⟨gb273, 3, none⟩ = some (.int .u64 a0_3) ∧ w'.cell? ⟨gb273, 4, none⟩ = some (.int .u64 a0_4)) ∧ (w'.heap[gb273]? = some (.cells #[.int .i64 a0_0, .int .u64 a0_1, .int .u64 a0_2, .int .u64 a0_3, .int .u64 a0_4] 25 (0, 0))) ∧ (w'.heap[s_]? = some (.cells #[.int .i64 0, .int .u64 0, .int .u64 0, .int .u64 0, .int .u64 0] 29 (0, 0))) ∧ (w.heap.size ≤ s_) ∧ (w.heap.size ≤ s_) ∧ (gb273 ≠ s_) ∧ (s_ ≠ gb273) ∧ (Below w.heap.size w w')) ?_ ?_
      rotate_left
      ·
       intro hJ1_4
       refine join_ (σ := Nat) 4 (m_ 8 39) (fun s_ => [(15, .agg #[.int .i64 t275, .int .u64 t276, .int .u64 t277, .int .u64 t278, .int .u64 t279]), (6, .pointer (some ⟨s_, 0, none⟩))]) (fun s_ w' => (w'.cell? ⟨gb273, 0, none⟩ = some (.int .i64 a0_0) ∧ w'.cell? ⟨gb273, 1, none⟩ = some (.int .u64 a0_1) ∧ w'.cell? ⟨gb273, 2, none⟩ = some (.int .u64 a0_2) ∧ w'.cell? ⟨gb273, 3, none⟩ = some (.int .u64 a0_3) ∧ w'.cell? ⟨gb273, 4, none⟩ = some (.int .u64 a0_4)) ∧ (w'.heap[gb273]? = some (.cells #[.int .i64 a0_0, .int .u64 a0_1, .int .u64 a0_2, .int .u64 a0_3, .int .u64 a0_4] 25 (0, 0))) ∧ (w'.heap[s_]? = some (.cells #[.int .i64 0, .int .u64 0, .int .u64 0, .int .u64 0, .int .u64 0] 29 (0, 0))) ∧ (w.heap.size ≤ s_) ∧ (w.heap.size ≤ s_) ∧ (gb273 ≠ s_) ∧ (s_ ≠ gb273) ∧ (Below w.heap.size w w')) ?_ ?_
       rotate_left
       ·
        intro hJ1_5
        refine join_ (σ := Nat × Nat) 4 (m_ 8 53) (fun s_ => [(5, .pointer (some ⟨s_.1, 0, none⟩)), (6, .pointer (some ⟨s_.2, 0, none⟩))]) (fun s_ w' => (w'.cell? ⟨gb273, 0, none⟩ = some (.int .i64 a0_0) ∧ w'.cell? ⟨gb273, 1, none⟩ = some (.int .u64 a0_1) ∧ w'.cell? ⟨gb273, 2, none⟩ = some (.int .u64 a0_2) ∧ w'.cell? ⟨gb273, 3, none⟩ = some (.int .u64 a0_3) ∧ w'.cell? ⟨gb273, 4, none⟩ = some (.int .u64 a0_4)) ∧ (w'.heap[gb273]? = some (.cells #[.int .i64 a0_0, .int .u64 a0_1, .int .u64 a0_2, .int .u64 a0_3, .int .u64 a0_4] 25 (0, 0))) ∧ (w'.heap[s_.1]? = some (.cells #[.int .i64 0, .int .u64 0, .int .u64 0, .int .u64 0, .int .u64 0] 29 (0, 0))) ∧ (w'.heap[s_.2]? = some (.cells #[.int .i64 0, .int .u64 0, .int .u64 0, .int .u64 0, .int .u64 0] 29 (0, 0))) ∧ (w.heap.size ≤ s_.1) ∧ (w.heap.size ≤ s_.1) ∧ (gb273 ≠ s_.1) ∧ (s_.1 ≠ gb273) ∧ (s_.2 ≠ s_.1) ∧ (s_.1 ≠ s_.2) ∧ (w.heap.size ≤ s_.2) ∧ (w.heap.size ≤ s_.2) ∧ (gb273 ≠ s_.2) ∧ (s_.2 ≠ gb273) ∧ (Below w.heap.size w w')) ?_ ?_
        rotate_left
        ·
         intro hJ4_5
         refine join_ (σ := Unit) 5 (m_ 8 7) (fun s_ => [(15, .agg #[.int .i64 t275, .int .u64 t276, .int .u64 t277, .int .u64 t278, .int .u64 t279])]) (fun s_ w' => (w'.cell? ⟨gb273, 0, none⟩ = some (.int .i64 a0_0) ∧ w'.cell? ⟨gb273, 1, none⟩ = some (.int .u64 a0_1) ∧ w'.cell? ⟨gb273, 2, none⟩ = some (.int .u64 a0_2) ∧ w'.cell? ⟨gb273, 3, none⟩ = some (.int .u64 a0_3) ∧ w'.cell? ⟨gb273, 4, none⟩ = some (.int .u64 a0_4)) ∧ (w'.heap[gb273]? = some (.cells #[.int .i64 a0_0, .int .u64 a0_1, .int .u64 a0_2, .int .u64 a0_3, .int .u64 a0_4] 25 (0, 0))) ∧ (Below w.heap.size w w')) ?_ ?_
         rotate_left
         ·
          intro hJ1
          refine join_ (σ := Nat) 5 (m_ 8 21) (fun s_ => [(5, .pointer (some ⟨s_, 0, none⟩))]) (fun s_ w' => (w'.cell? ⟨gb273, 0, none⟩ = some (.int .i64 a0_0) ∧ w'.cell? ⟨gb273, 1, none⟩ = some (.int .u64 a0_1) ∧ w'.cell? ⟨gb273, 2, none⟩ = some (.int .u64 a0_2) ∧ w'.cell? ⟨gb273, 3, none⟩ = some (.int .u64 a0_3) ∧ w'.cell? ⟨gb273, 4, none⟩ = some (.int .u64 a0_4)) ∧ (w'.heap[gb273]? = some (.cells #[.int .i64 a0_0, .int .u64 a0_1, .int .u64 a0_2, .int .u64 a0_3, .int .u64 a0_4] 25 (0, 0))) ∧ (w'.heap[s_]? = some (.cells #[.int .i64 0, .int .u64 0, .int .u64 0, .int .u64 0, .int .u64 0] 29 (0, 0))) ∧ (w.heap.size ≤ s_) ∧ (w.heap.size ≤ s_) ∧ (gb273 ≠ s_) ∧ (s_ ≠ gb273) ∧ (Below w.heap.size w w')) ?_ ?_
          rotate_left
          ·
           intro hJ4
           refine join_ (σ := Nat) 5 (m_ 8 37) (fun s_ => [(6, .pointer (some ⟨s_, 0, none⟩))]) (fun s_ w' => (w'.cell? ⟨gb273, 0, none⟩ = some (.int .i64 a0_0) ∧ w'.cell? ⟨gb273, 1, none⟩ = some (.int .u64 a0_1) ∧ w'.cell? ⟨gb273, 2, none⟩ = some (.int .u64 a0_2) ∧ w'.cell? ⟨gb273, 3, none⟩ = some (.int .u64 a0_3) ∧ w'.cell? ⟨gb273, 4, none⟩ = some (.int .u64 a0_4)) ∧ (w'.heap[gb273]? = some (.cells #[.int .i64 a0_0, .int .u64 a0_1, .int .u64 a0_2, .int .u64 a0_3, .int .u64 a0_4] 25 (0, 0))) ∧ (w'.heap[s_]? = some (.cells #[.int .i64 0, .int .u64 0, .int .u64 0, .int .u64 0, .int .u64 0] 29 (0, 0))) ∧ (w.heap.size ≤ s_) ∧ (w.heap.size ≤ s_) ∧ (gb273 ≠ s_) ∧ (s_ ≠ gb273) ∧ (Below w.heap.size w w')) ?_ ?_
           rotate_left
           ·
            intro hJ5
            refine three_ (i := 1) (j := 4) (k := 5) (Ni := some 15) (Nj := some 5) (Nk := some 6) (m_ 8 7) (m_ 8 21) (m_ 8 37) rfl rfl rfl rfl rfl rfl (three_of HT_.out (by kernel_rfl)) (by decide) (by decide) (by decide) (fun K hK => ?_) (fun K hK => ?_) (fun K hK => ?_)
            ·
             skip
             refine goes_ Tryd.func46 (by kernel_rfl) rfl #[.agg #[.int .i64 a0_0, .int .u64 a0_1, .int .u64 a0_2, .int .u64 a0_3, .int .u64 a0_4]] (by rfl) rfl rfl ar_ ?_
             with_reducible refine (honeycomblaw05_Own.calls a0_0 a0_1 a0_2 a0_3 a0_4 t275 t276 t277 t278 t279 _ A5.out).mono ?_
             rintro e w19 ⟨rfl, hb⟩
             refine ⟨_, rfl, ?_⟩
             replace BK273 := bb_ BK273.out hb
             replace HB := Aside0.mk (below_step (hg_ GE273.out) hb)
             (try clear hb)
             (try clear hb2)
             (try clear hk)
             (try clear hi)
             refine hK.out _ _ ⟨(blk_cell BK273.out 0).trans rfl, (blk_cell BK273.out 1).trans rfl, (blk_cell BK273.out 2).trans rfl, (blk_cell BK273.out 3).trans rfl, (blk_cell BK273.out 4).trans rfl⟩ (fun hHeld => ?_)
             clear hK K
             refine norm_ (a' := ?_) ?_ ?_
             rotate_left
             ·
              show Act.put _ (some 15) _ = _
              simp only [puts_]
              rfl
             exact norm_ (by first | (simp only [putAll, Act.put, List.setIfInBounds_toArray, List.set_cons_zero, List.set_cons_succ]; done) | (simp only [putAll, Act.put, List.setIfInBounds_toArray, List.set_cons_zero, List.set_cons_succ]; rfl)) (hJ1 () _ ⟨hHeld, (bk_ BK273.out), (hg_ GE273.out)⟩)
            ·
             skip
             refine box_step ?hg (N := 5) ?hd (cs := #[.int .i64 0, .int .u64 0, .int .u64 0, .int .u64 0, .int .u64 0]) (t := 29) ?hr ?_; (case hd => rfl); (case hg => rfl); (case hr => first | (go_simp; done) | (go_simp; rfl))
             intro gb285 hg w19 hbox hb
             have BK285 := Aside0.mk (hbox)
             have GW285 := Aside0.mk ((by rw [hg]; exact (below_size (hg_ GE273.out)) : w.heap.size ≤ gb285))
             have GE285 := Aside0.mk ((by rw [hg]; exact (below_size (hg_ GE273.out)) : w.heap.size ≤ gb285))
             have NB273_285 := Aside0.mk ((by rw [hg]; exact ne1_ BK273.out : gb273 ≠ gb285))
             have NB285_273 := Aside0.mk ((by rw [hg]; exact ne2_ BK273.out : gb285 ≠ gb273))
             replace BK273 := bb_ BK273.out hb
             replace HB := Aside0.mk (below_step (hg_ GE273.out) hb)
             clear hb hbox hg
             refine hK.out _ _ ⟨(blk_cell BK273.out 0).trans rfl, (blk_cell BK273.out 1).trans rfl, (blk_cell BK273.out 2).trans rfl, (blk_cell BK273.out 3).trans rfl, (blk_cell BK273.out 4).trans rfl⟩ (fun hHeld => ?_)
             clear hK K
             refine norm_ (a' := ?_) ?_ ?_
             rotate_left
             ·
              show Act.put _ (some 5) _ = _
              simp only [puts_]
              rfl
             exact norm_ (by first | (simp only [putAll, Act.put, List.setIfInBounds_toArray, List.set_cons_zero, List.set_cons_succ]; done) | (simp only [putAll, Act.put, List.setIfInBounds_toArray, List.set_cons_zero, List.set_cons_succ]; rfl)) (hJ4 (gb285) _ ⟨hHeld, (bk_ BK273.out), (bk_ BK285.out), GW285.out, GE285.out, NB273_285.out, NB285_273.out, (hg2_ GE273.out GE285.out)⟩)
            ·
             skip
             refine box_step ?hg (N := 6) ?hd (cs := #[.int .i64 0, .int .u64 0, .int .u64 0, .int .u64 0, .int .u64 0]) (t := 29) ?hr ?_; (case hd => rfl); (case hg => rfl); (case hr => first | (go_simp; done) | (go_simp; rfl))
             intro gb286 hg w19 hbox hb
             have BK286 := Aside0.mk (hbox)
             have GW286 := Aside0.mk ((by rw [hg]; exact (below_size (hg_ GE273.out)) : w.heap.size ≤ gb286))
             have GE286 := Aside0.mk ((by rw [hg]; exact (below_size (hg_ GE273.out)) : w.heap.size ≤ gb286))
             have NB273_286 := Aside0.mk ((by rw [hg]; exact ne1_ BK273.out : gb273 ≠ gb286))
             have NB286_273 := Aside0.mk ((by rw [hg]; exact ne2_ BK273.out : gb286 ≠ gb273))
             replace BK273 := bb_ BK273.out hb
             replace HB := Aside0.mk (below_step (hg_ GE273.out) hb)
             clear hb hbox hg
             refine hK.out _ _ ⟨(blk_cell BK273.out 0).trans rfl, (blk_cell BK273.out 1).trans rfl, (blk_cell BK273.out 2).trans rfl, (blk_cell BK273.out 3).trans rfl, (blk_cell BK273.out 4).trans rfl⟩ (fun hHeld => ?_)
             clear hK K
             refine norm_ (a' := ?_) ?_ ?_
             rotate_left
             ·
              show Act.put _ (some 6) _ = _
              simp only [puts_]
              rfl
             exact norm_ (by first | (simp only [putAll, Act.put, List.setIfInBounds_toArray, List.set_cons_zero, List.set_cons_succ]; done) | (simp only [putAll, Act.put, List.setIfInBounds_toArray, List.set_cons_zero, List.set_cons_succ]; rfl)) (hJ5 (gb286) _ ⟨hHeld, (bk_ BK273.out), (bk_ BK286.out), GW286.out, GE286.out, NB273_286.out, NB286_273.out, (hg2_ GE273.out GE286.out)⟩)
           ·
            skip
            rintro gb286 w20 ⟨hS_, h0_, h1_, h2_, h3_, h4_, h5_, h6_⟩
            have n0_ : Aside0 (w20.heap[gb273]? = some (.cells #[.int .i64 a0_0, .int .u64 a0_1, .int .u64 a0_2, .int .u64 a0_3, .int .u64 a0_4] 25 (0, 0))) := ⟨h0_⟩
            have n1_ : Aside0 (w20.heap[gb286]? = some (.cells #[.int .i64 0, .int .u64 0, .int .u64 0, .int .u64 0, .int .u64 0] 29 (0, 0))) := ⟨h1_⟩
            have n2_ : Aside0 (w.heap.size ≤ gb286) := ⟨h2_⟩
            have n3_ : Aside0 (w.heap.size ≤ gb286) := ⟨h3_⟩
            have n4_ : Aside0 (gb273 ≠ gb286) := ⟨h4_⟩
            have n5_ : Aside0 (gb286 ≠ gb273) := ⟨h5_⟩
            have n6_ : Aside0 (Below w.heap.size w w20) := ⟨h6_⟩
            clear BK273
            clear HB
            clear h0_ h1_ h2_ h3_ h4_ h5_ h6_
            have BK273 := n0_
            have BK286 := n1_
            have GW286 := n2_
            have GE286 := n3_
            have NB273_286 := n4_
            have NB286_273 := n5_
            have HB := n6_
            clear n0_ n1_ n2_ n3_ n4_ n5_ n6_
            have hHeld : w20.cell? ⟨gb273, 0, none⟩ = some (.int .i64 a0_0) ∧ w20.cell? ⟨gb273, 1, none⟩ = some (.int .u64 a0_1) ∧ w20.cell? ⟨gb273, 2, none⟩ = some (.int .u64 a0_2) ∧ w20.cell? ⟨gb273, 3, none⟩ = some (.int .u64 a0_3) ∧ w20.cell? ⟨gb273, 4, none⟩ = some (.int .u64 a0_4) := hS_
            refine norm_ (a' := ?_) ?_ ?_
            rotate_left
            ·
             simp only [putAll, Act.put, List.setIfInBounds_toArray, List.set_cons_zero, List.set_cons_succ]
             rfl
            refine two_ (i := 1) (j := 4) (Ni := some 15) (Nj := some 5) (m_ 8 39) (m_ 8 53) rfl rfl rfl rfl (two_of HT_.out (by kernel_rfl)) (by decide) (by decide) (fun K hK => ?_) (fun K hK => ?_)
            ·
             skip
             refine goes_ Tryd.func46 (by kernel_rfl) rfl #[.agg #[.int .i64 a0_0, .int .u64 a0_1, .int .u64 a0_2, .int .u64 a0_3, .int .u64 a0_4]] (by rfl) rfl rfl ar_ ?_
             with_reducible refine (honeycomblaw05_Own.calls a0_0 a0_1 a0_2 a0_3 a0_4 t275 t276 t277 t278 t279 _ A5.out).mono ?_
             rintro e w21 ⟨rfl, hb⟩
             refine ⟨_, rfl, ?_⟩
             replace BK273 := bb_ BK273.out hb
             replace BK286 := bb_ BK286.out hb
             replace HB := Aside0.mk (below_step (hg2_ GE273.out GE286.out) hb)
             (try clear hb)
             (try clear hb2)
             (try clear hk)
             (try clear hi)
             refine hK.out _ _ ⟨(blk_cell BK273.out 0).trans rfl, (blk_cell BK273.out 1).trans rfl, (blk_cell BK273.out 2).trans rfl, (blk_cell BK273.out 3).trans rfl, (blk_cell BK273.out 4).trans rfl⟩ (fun hHeld => ?_)
             clear hK K
             refine norm_ (a' := ?_) ?_ ?_
             rotate_left
             ·
              show Act.put _ (some 15) _ = _
              simp only [puts_]
              rfl
             exact norm_ (by first | (simp only [putAll, Act.put, List.setIfInBounds_toArray, List.set_cons_zero, List.set_cons_succ]; done) | (simp only [putAll, Act.put, List.setIfInBounds_toArray, List.set_cons_zero, List.set_cons_succ]; rfl)) (hJ1_5 (gb286) _ ⟨hHeld, (bk_ BK273.out), (bk_ BK286.out), GW286.out, GE286.out, NB273_286.out, NB286_273.out, (hg2_ GE273.out GE286.out)⟩)
            ·
             skip
             refine box_step ?hg (N := 5) ?hd (cs := #[.int .i64 0, .int .u64 0, .int .u64 0, .int .u64 0, .int .u64 0]) (t := 29) ?hr ?_; (case hd => rfl); (case hg => rfl); (case hr => first | (go_simp; done) | (go_simp; rfl))
             intro gb285 hg w21 hbox hb
             have BK285 := Aside0.mk (hbox)
             have GW285 := Aside0.mk ((by rw [hg]; exact (below_size (hg2_ GE273.out GE286.out)) : w.heap.size ≤ gb285))
             have GE285 := Aside0.mk ((by rw [hg]; exact (below_size (hg2_ GE273.out GE286.out)) : w.heap.size ≤ gb285))
             have NB273_285 := Aside0.mk ((by rw [hg]; exact ne1_ BK273.out : gb273 ≠ gb285))
             have NB285_273 := Aside0.mk ((by rw [hg]; exact ne2_ BK273.out : gb285 ≠ gb273))
             have NB286_285 := Aside0.mk ((by rw [hg]; exact ne1_ BK286.out : gb286 ≠ gb285))
             have NB285_286 := Aside0.mk ((by rw [hg]; exact ne2_ BK286.out : gb285 ≠ gb286))
             replace BK273 := bb_ BK273.out hb
             replace BK286 := bb_ BK286.out hb
             replace HB := Aside0.mk (below_step (hg2_ GE273.out GE286.out) hb)
             clear hb hbox hg
             refine hK.out _ _ ⟨(blk_cell BK273.out 0).trans rfl, (blk_cell BK273.out 1).trans rfl, (blk_cell BK273.out 2).trans rfl, (blk_cell BK273.out 3).trans rfl, (blk_cell BK273.out 4).trans rfl⟩ (fun hHeld => ?_)
             clear hK K
             refine norm_ (a' := ?_) ?_ ?_
             rotate_left
             ·
              show Act.put _ (some 5) _ = _
              simp only [puts_]
              rfl
             exact norm_ (by first | (simp only [putAll, Act.put, List.setIfInBounds_toArray, List.set_cons_zero, List.set_cons_succ]; done) | (simp only [putAll, Act.put, List.setIfInBounds_toArray, List.set_cons_zero, List.set_cons_succ]; rfl)) (hJ4_5 (gb285, gb286) _ ⟨hHeld, (bk_ BK273.out), (bk_ BK285.out), (bk_ BK286.out), GW285.out, GE285.out, NB273_285.out, NB285_273.out, NB286_285.out, NB285_286.out, GW286.out, GE286.out, NB273_286.out, NB286_273.out, (hg3_ GE273.out GE286.out GE285.out)⟩)
          ·
           skip
           rintro gb285 w20 ⟨hS_, h0_, h1_, h2_, h3_, h4_, h5_, h6_⟩
           have n0_ : Aside0 (w20.heap[gb273]? = some (.cells #[.int .i64 a0_0, .int .u64 a0_1, .int .u64 a0_2, .int .u64 a0_3, .int .u64 a0_4] 25 (0, 0))) := ⟨h0_⟩
           have n1_ : Aside0 (w20.heap[gb285]? = some (.cells #[.int .i64 0, .int .u64 0, .int .u64 0, .int .u64 0, .int .u64 0] 29 (0, 0))) := ⟨h1_⟩
           have n2_ : Aside0 (w.heap.size ≤ gb285) := ⟨h2_⟩
           have n3_ : Aside0 (w.heap.size ≤ gb285) := ⟨h3_⟩
           have n4_ : Aside0 (gb273 ≠ gb285) := ⟨h4_⟩
           have n5_ : Aside0 (gb285 ≠ gb273) := ⟨h5_⟩
           have n6_ : Aside0 (Below w.heap.size w w20) := ⟨h6_⟩
           clear BK273
           clear HB
           clear h0_ h1_ h2_ h3_ h4_ h5_ h6_
           have BK273 := n0_
           have BK285 := n1_
           have GW285 := n2_
           have GE285 := n3_
           have NB273_285 := n4_
           have NB285_273 := n5_
           have HB := n6_
           clear n0_ n1_ n2_ n3_ n4_ n5_ n6_
           have hHeld : w20.cell? ⟨gb273, 0, none⟩ = some (.int .i64 a0_0) ∧ w20.cell? ⟨gb273, 1, none⟩ = some (.int .u64 a0_1) ∧ w20.cell? ⟨gb273, 2, none⟩ = some (.int .u64 a0_2) ∧ w20.cell? ⟨gb273, 3, none⟩ = some (.int .u64 a0_3) ∧ w20.cell? ⟨gb273, 4, none⟩ = some (.int .u64 a0_4) := hS_
           refine norm_ (a' := ?_) ?_ ?_
           rotate_left
           ·
            simp only [putAll, Act.put, List.setIfInBounds_toArray, List.set_cons_zero, List.set_cons_succ]
            rfl
           refine two_ (i := 1) (j := 5) (Ni := some 15) (Nj := some 6) (m_ 8 23) (m_ 8 53) rfl rfl rfl rfl (two_of HT_.out (by kernel_rfl)) (by decide) (by decide) (fun K hK => ?_) (fun K hK => ?_)
           ·
            skip
            refine goes_ Tryd.func46 (by kernel_rfl) rfl #[.agg #[.int .i64 a0_0, .int .u64 a0_1, .int .u64 a0_2, .int .u64 a0_3, .int .u64 a0_4]] (by rfl) rfl rfl ar_ ?_
            with_reducible refine (honeycomblaw05_Own.calls a0_0 a0_1 a0_2 a0_3 a0_4 t275 t276 t277 t278 t279 _ A5.out).mono ?_
            rintro e w21 ⟨rfl, hb⟩
            refine ⟨_, rfl, ?_⟩
            replace BK273 := bb_ BK273.out hb
            replace BK285 := bb_ BK285.out hb
            replace HB := Aside0.mk (below_step (hg2_ GE273.out GE285.out) hb)
            (try clear hb)
            (try clear hb2)
            (try clear hk)
            (try clear hi)
            refine hK.out _ _ ⟨(blk_cell BK273.out 0).trans rfl, (blk_cell BK273.out 1).trans rfl, (blk_cell BK273.out 2).trans rfl, (blk_cell BK273.out 3).trans rfl, (blk_cell BK273.out 4).trans rfl⟩ (fun hHeld => ?_)
            clear hK K
            refine norm_ (a' := ?_) ?_ ?_
            rotate_left
            ·
             show Act.put _ (some 15) _ = _
             simp only [puts_]
             rfl
            exact norm_ (by first | (simp only [putAll, Act.put, List.setIfInBounds_toArray, List.set_cons_zero, List.set_cons_succ]; done) | (simp only [putAll, Act.put, List.setIfInBounds_toArray, List.set_cons_zero, List.set_cons_succ]; rfl)) (hJ1_4 (gb285) _ ⟨hHeld, (bk_ BK273.out), (bk_ BK285.out), GW285.out, GE285.out, NB273_285.out, NB285_273.out, (hg2_ GE273.out GE285.out)⟩)
           ·
            skip
            refine box_step ?hg (N := 6) ?hd (cs := #[.int .i64 0, .int .u64 0, .int .u64 0, .int .u64 0, .int .u64 0]) (t := 29) ?hr ?_; (case hd => rfl); (case hg => rfl); (case hr => first | (go_simp; done) | (go_simp; rfl))
            intro gb286 hg w21 hbox hb
            have BK286 := Aside0.mk (hbox)
            have GW286 := Aside0.mk ((by rw [hg]; exact (below_size (hg2_ GE273.out GE285.out)) : w.heap.size ≤ gb286))
            have GE286 := Aside0.mk ((by rw [hg]; exact (below_size (hg2_ GE273.out GE285.out)) : w.heap.size ≤ gb286))
            have NB273_286 := Aside0.mk ((by rw [hg]; exact ne1_ BK273.out : gb273 ≠ gb286))
            have NB286_273 := Aside0.mk ((by rw [hg]; exact ne2_ BK273.out : gb286 ≠ gb273))
            have NB285_286 := Aside0.mk ((by rw [hg]; exact ne1_ BK285.out : gb285 ≠ gb286))
            have NB286_285 := Aside0.mk ((by rw [hg]; exact ne2_ BK285.out : gb286 ≠ gb285))
            replace BK273 := bb_ BK273.out hb
            replace BK285 := bb_ BK285.out hb
            replace HB := Aside0.mk (below_step (hg2_ GE273.out GE285.out) hb)
            clear hb hbox hg
            refine hK.out _ _ ⟨(blk_cell BK273.out 0).trans rfl, (blk_cell BK273.out 1).trans rfl, (blk_cell BK273.out 2).trans rfl, (blk_cell BK273.out 3).trans rfl, (blk_cell BK273.out 4).trans rfl⟩ (fun hHeld => ?_)
            clear hK K
            refine norm_ (a' := ?_) ?_ ?_
            rotate_left
            ·
             show Act.put _ (some 6) _ = _
             simp only [puts_]
             rfl
            exact norm_ (by first | (simp only [putAll, Act.put, List.setIfInBounds_toArray, List.set_cons_zero, List.set_cons_succ]; done) | (simp only [putAll, Act.put, List.setIfInBounds_toArray, List.set_cons_zero, List.set_cons_succ]; rfl)) (hJ4_5 (gb285, gb286) _ ⟨hHeld, (bk_ BK273.out), (bk_ BK285.out), (bk_ BK286.out), GW285.out, GE285.out, NB273_285.out, NB285_273.out, NB286_285.out, NB285_286.out, GW286.out, GE286.out, NB273_286.out, NB286_273.out, (hg3_ GE273.out GE285.out GE286.out)⟩)
         ·
          skip
          rintro _ w20 ⟨hS_, h0_, h1_⟩
          have n0_ : Aside0 (w20.heap[gb273]? = some (.cells #[.int .i64 a0_0, .int .u64 a0_1, .int .u64 a0_2, .int .u64 a0_3, .int .u64 a0_4] 25 (0, 0))) := ⟨h0_⟩
          have n1_ : Aside0 (Below w.heap.size w w20) := ⟨h1_⟩
          clear BK273
          clear HB
          clear h0_ h1_
          have BK273 := n0_
          have HB := n1_
          clear n0_ n1_
          have hHeld : w20.cell? ⟨gb273, 0, none⟩ = some (.int .i64 a0_0) ∧ w20.cell? ⟨gb273, 1, none⟩ = some (.int .u64 a0_1) ∧ w20.cell? ⟨gb273, 2, none⟩ = some (.int .u64 a0_2) ∧ w20.cell? ⟨gb273, 3, none⟩ = some (.int .u64 a0_3) ∧ w20.cell? ⟨gb273, 4, none⟩ = some (.int .u64 a0_4) := hS_
          refine norm_ (a' := ?_) ?_ ?_
          rotate_left
          ·
           simp only [putAll, Act.put, List.setIfInBounds_toArray, List.set_cons_zero, List.set_cons_succ]
           rfl
          refine three_ (i := 3) (j := 4) (k := 5) (Ni := some 17) (Nj := some 5) (Nk := some 6) (m_ 8 15) (m_ 8 23) (m_ 8 39) rfl rfl rfl rfl rfl rfl (three_of HT_.out (by kernel_rfl)) (by decide) (by decide) (by decide) (fun K hK => ?_) (fun K hK => ?_) (fun K hK => ?_)
          ·
           skip
           refine goes_ Tryd.func14 (by kernel_rfl) rfl #[.agg #[.int .i64 a0_0, .int .u64 a0_1, .int .u64 a0_2, .int .u64 a0_3, .int .u64 a0_4]] (by rfl) rfl rfl ar_ ?_
           with_reducible refine (XSome5.calls a0_0 a0_1 a0_2 a0_3 a0_4 t280 t281 t282 t283 t284 _ A6.out).mono ?_
           rintro e w21 ⟨rfl, hb⟩
           refine ⟨_, rfl, ?_⟩
           replace BK273 := bb_ BK273.out hb
           replace HB := Aside0.mk (below_step (hg_ GE273.out) hb)
           (try clear hb)
           (try clear hb2)
           (try clear hk)
           (try clear hi)
           refine hK.out _ _ ⟨(blk_cell BK273.out 0).trans rfl, (blk_cell BK273.out 1).trans rfl, (blk_cell BK273.out 2).trans rfl, (blk_cell BK273.out 3).trans rfl, (blk_cell BK273.out 4).trans rfl⟩ (fun hHeld => ?_)
           clear hK K
           refine norm_ (a' := ?_) ?_ ?_
           rotate_left
           ·
            show Act.put _ (some 17) _ = _
            simp only [puts_]
            rfl
           exact norm_ (by first | (simp only [putAll, Act.put, List.setIfInBounds_toArray, List.set_cons_zero, List.set_cons_succ]; done) | (simp only [putAll, Act.put, List.setIfInBounds_toArray, List.set_cons_zero, List.set_cons_succ]; rfl)) (hJ1_3 () _ ⟨hHeld, (bk_ BK273.out), (hg_ GE273.out)⟩)
          ·
           skip
           refine box_step ?hg (N := 5) ?hd (cs := #[.int .i64 0, .int .u64 0, .int .u64 0, .int .u64 0, .int .u64 0]) (t := 29) ?hr ?_; (case hd => rfl); (case hg => rfl); (case hr => first | (go_simp; done) | (go_simp; rfl))
           intro gb285 hg w21 hbox hb
           have BK285 := Aside0.mk (hbox)
           have GW285 := Aside0.mk ((by rw [hg]; exact (below_size (hg_ GE273.out)) : w.heap.size ≤ gb285))
           have GE285 := Aside0.mk ((by rw [hg]; exact (below_size (hg_ GE273.out)) : w.heap.size ≤ gb285))
           have NB273_285 := Aside0.mk ((by rw [hg]; exact ne1_ BK273.out : gb273 ≠ gb285))
           have NB285_273 := Aside0.mk ((by rw [hg]; exact ne2_ BK273.out : gb285 ≠ gb273))
           replace BK273 := bb_ BK273.out hb
           replace HB := Aside0.mk (below_step (hg_ GE273.out) hb)
           clear hb hbox hg
           refine hK.out _ _ ⟨(blk_cell BK273.out 0).trans rfl, (blk_cell BK273.out 1).trans rfl, (blk_cell BK273.out 2).trans rfl, (blk_cell BK273.out 3).trans rfl, (blk_cell BK273.out 4).trans rfl⟩ (fun hHeld => ?_)
           clear hK K
           refine norm_ (a' := ?_) ?_ ?_
           rotate_left
           ·
            show Act.put _ (some 5) _ = _
            simp only [puts_]
            rfl
           exact norm_ (by first | (simp only [putAll, Act.put, List.setIfInBounds_toArray, List.set_cons_zero, List.set_cons_succ]; done) | (simp only [putAll, Act.put, List.setIfInBounds_toArray, List.set_cons_zero, List.set_cons_succ]; rfl)) (hJ1_4 (gb285) _ ⟨hHeld, (bk_ BK273.out), (bk_ BK285.out), GW285.out, GE285.out, NB273_285.out, NB285_273.out, (hg2_ GE273.out GE285.out)⟩)
          ·
           skip
           refine box_step ?hg (N := 6) ?hd (cs := #[.int .i64 0, .int .u64 0, .int .u64 0, .int .u64 0, .int .u64 0]) (t := 29) ?hr ?_; (case hd => rfl); (case hg => rfl); (case hr => first | (go_simp; done) | (go_simp; rfl))
           intro gb286 hg w21 hbox hb
           have BK286 := Aside0.mk (hbox)
           have GW286 := Aside0.mk ((by rw [hg]; exact (below_size (hg_ GE273.out)) : w.heap.size ≤ gb286))
           have GE286 := Aside0.mk ((by rw [hg]; exact (below_size (hg_ GE273.out)) : w.heap.size ≤ gb286))
           have NB273_286 := Aside0.mk ((by rw [hg]; exact ne1_ BK273.out : gb273 ≠ gb286))
           have NB286_273 := Aside0.mk ((by rw [hg]; exact ne2_ BK273.out : gb286 ≠ gb273))
           replace BK273 := bb_ BK273.out hb
           replace HB := Aside0.mk (below_step (hg_ GE273.out) hb)
           clear hb hbox hg
           refine hK.out _ _ ⟨(blk_cell BK273.out 0).trans rfl, (blk_cell BK273.out 1).trans rfl, (blk_cell BK273.out 2).trans rfl, (blk_cell BK273.out 3).trans rfl, (blk_cell BK273.out 4).trans rfl⟩ (fun hHeld => ?_)
           clear hK K
           refine norm_ (a' := ?_) ?_ ?_
           rotate_left
           ·
            show Act.put _ (some 6) _ = _
            simp only [puts_]
            rfl
           exact norm_ (by first | (simp only [putAll, Act.put, List.setIfInBounds_toArray, List.set_cons_zero, List.set_cons_succ]; done) | (simp only [putAll, Act.put, List.setIfInBounds_toArray, List.set_cons_zero, List.set_cons_succ]; rfl)) (hJ1_5 (gb286) _ ⟨hHeld, (bk_ BK273.out), (bk_ BK286.out), GW286.out, GE286.out, NB273_286.out, NB286_273.out, (hg2_ GE273.out GE286.out)⟩)
        ·
         skip
         rintro ⟨gb285, gb286⟩ w21 ⟨hS_, h0_, h1_, h2_, h3_, h4_, h5_, h6_, h7_, h8_, h9_, h10_, h11_, h12_, h13_⟩
         have n0_ : Aside0 (w21.heap[gb273]? = some (.cells #[.int .i64 a0_0, .int .u64 a0_1, .int .u64 a0_2, .int .u64 a0_3, .int .u64 a0_4] 25 (0, 0))) := ⟨h0_⟩
         have n1_ : Aside0 (w21.heap[gb285]? = some (.cells #[.int .i64 0, .int .u64 0, .int .u64 0, .int .u64 0, .int .u64 0] 29 (0, 0))) := ⟨h1_⟩
         have n2_ : Aside0 (w21.heap[gb286]? = some (.cells #[.int .i64 0, .int .u64 0, .int .u64 0, .int .u64 0, .int .u64 0] 29 (0, 0))) := ⟨h2_⟩
         have n3_ : Aside0 (w.heap.size ≤ gb285) := ⟨h3_⟩
         have n4_ : Aside0 (w.heap.size ≤ gb285) := ⟨h4_⟩
         have n5_ : Aside0 (gb273 ≠ gb285) := ⟨h5_⟩
         have n6_ : Aside0 (gb285 ≠ gb273) := ⟨h6_⟩
         have n7_ : Aside0 (gb286 ≠ gb285) := ⟨h7_⟩
         have n8_ : Aside0 (gb285 ≠ gb286) := ⟨h8_⟩
         have n9_ : Aside0 (w.heap.size ≤ gb286) := ⟨h9_⟩
         have n10_ : Aside0 (w.heap.size ≤ gb286) := ⟨h10_⟩
         have n11_ : Aside0 (gb273 ≠ gb286) := ⟨h11_⟩
         have n12_ : Aside0 (gb286 ≠ gb273) := ⟨h12_⟩
         have n13_ : Aside0 (Below w.heap.size w w21) := ⟨h13_⟩
         clear BK273
         clear HB
         clear h0_ h1_ h2_ h3_ h4_ h5_ h6_ h7_ h8_ h9_ h10_ h11_ h12_ h13_
         have BK273 := n0_
         have BK285 := n1_
         have BK286 := n2_
         have GW285 := n3_
         have GE285 := n4_
         have NB273_285 := n5_
         have NB285_273 := n6_
         have NB286_285 := n7_
         have NB285_286 := n8_
         have GW286 := n9_
         have GE286 := n10_
         have NB273_286 := n11_
         have NB286_273 := n12_
         have HB := n13_
         clear n0_ n1_ n2_ n3_ n4_ n5_ n6_ n7_ n8_ n9_ n10_ n11_ n12_ n13_
         have hHeld : w21.cell? ⟨gb273, 0, none⟩ = some (.int .i64 a0_0) ∧ w21.cell? ⟨gb273, 1, none⟩ = some (.int .u64 a0_1) ∧ w21.cell? ⟨gb273, 2, none⟩ = some (.int .u64 a0_2) ∧ w21.cell? ⟨gb273, 3, none⟩ = some (.int .u64 a0_3) ∧ w21.cell? ⟨gb273, 4, none⟩ = some (.int .u64 a0_4) := hS_
         refine norm_ (a' := ?_) ?_ ?_
         rotate_left
         ·
          simp only [putAll, Act.put, List.setIfInBounds_toArray, List.set_cons_zero, List.set_cons_succ]
          rfl
         refine one_ (i := 1) (N := some 15) (m_ 8 55) rfl rfl (one_of HT_.out (by kernel_rfl)) (by decide) (fun K hK => ?_)
         refine goes_ Tryd.func46 (by kernel_rfl) rfl #[.agg #[.int .i64 a0_0, .int .u64 a0_1, .int .u64 a0_2, .int .u64 a0_3, .int .u64 a0_4]] (by rfl) rfl rfl ar_ ?_
         with_reducible refine (honeycomblaw05_Own.calls a0_0 a0_1 a0_2 a0_3 a0_4 t275 t276 t277 t278 t279 _ A5.out).mono ?_
         rintro e w22 ⟨rfl, hb⟩
         refine ⟨_, rfl, ?_⟩
         replace BK273 := bb_ BK273.out hb
         replace BK285 := bb_ BK285.out hb
         replace BK286 := bb_ BK286.out hb
         replace HB := Aside0.mk (below_step (hg3_ GE273.out GE285.out GE286.out) hb)
         (try clear hb)
         (try clear hb2)
         (try clear hk)
         (try clear hi)
         refine hK.out _ _ ⟨(blk_cell BK273.out 0).trans rfl, (blk_cell BK273.out 1).trans rfl, (blk_cell BK273.out 2).trans rfl, (blk_cell BK273.out 3).trans rfl, (blk_cell BK273.out 4).trans rfl⟩ (fun hHeld => ?_)
         clear hK K
         refine norm_ (a' := ?_) ?_ ?_
         rotate_left
         ·
          show Act.put _ (some 15) _ = _
          simp only [puts_]
          rfl
         exact norm_ (by first | (simp only [putAll, Act.put, List.setIfInBounds_toArray, List.set_cons_zero, List.set_cons_succ]; done) | (simp only [putAll, Act.put, List.setIfInBounds_toArray, List.set_cons_zero, List.set_cons_succ]; rfl)) (hJ1_4_5 (gb285, gb286) _ ⟨hHeld, (bk_ BK273.out), (bk_ BK285.out), (bk_ BK286.out), GW285.out, GE285.out, NB273_285.out, NB285_273.out, NB286_285.out, NB285_286.out, GW286.out, GE286.out, NB273_286.out, NB286_273.out, (hg3_ GE273.out GE285.out GE286.out)⟩)
       ·
        skip
        rintro gb286 w21 ⟨hS_, h0_, h1_, h2_, h3_, h4_, h5_, h6_⟩
        have n0_ : Aside0 (w21.heap[gb273]? = some (.cells #[.int .i64 a0_0, .int .u64 a0_1, .int .u64 a0_2, .int .u64 a0_3, .int .u64 a0_4] 25 (0, 0))) := ⟨h0_⟩
        have n1_ : Aside0 (w21.heap[gb286]? = some (.cells #[.int .i64 0, .int .u64 0, .int .u64 0, .int .u64 0, .int .u64 0] 29 (0, 0))) := ⟨h1_⟩
        have n2_ : Aside0 (w.heap.size ≤ gb286) := ⟨h2_⟩
        have n3_ : Aside0 (w.heap.size ≤ gb286) := ⟨h3_⟩
        have n4_ : Aside0 (gb273 ≠ gb286) := ⟨h4_⟩
        have n5_ : Aside0 (gb286 ≠ gb273) := ⟨h5_⟩
        have n6_ : Aside0 (Below w.heap.size w w21) := ⟨h6_⟩
        clear BK273
        clear HB
        clear h0_ h1_ h2_ h3_ h4_ h5_ h6_
        have BK273 := n0_
        have BK286 := n1_
        have GW286 := n2_
        have GE286 := n3_
        have NB273_286 := n4_
        have NB286_273 := n5_
        have HB := n6_
        clear n0_ n1_ n2_ n3_ n4_ n5_ n6_
        have hHeld : w21.cell? ⟨gb273, 0, none⟩ = some (.int .i64 a0_0) ∧ w21.cell? ⟨gb273, 1, none⟩ = some (.int .u64 a0_1) ∧ w21.cell? ⟨gb273, 2, none⟩ = some (.int .u64 a0_2) ∧ w21.cell? ⟨gb273, 3, none⟩ = some (.int .u64 a0_3) ∧ w21.cell? ⟨gb273, 4, none⟩ = some (.int .u64 a0_4) := hS_
        refine norm_ (a' := ?_) ?_ ?_
        rotate_left
        ·
         simp only [putAll, Act.put, List.setIfInBounds_toArray, List.set_cons_zero, List.set_cons_succ]
         rfl
        refine two_ (i := 3) (j := 4) (Ni := some 17) (Nj := some 5) (m_ 8 47) (m_ 8 55) rfl rfl rfl rfl (two_of HT_.out (by kernel_rfl)) (by decide) (by decide) (fun K hK => ?_) (fun K hK => ?_)
        ·
         skip
         refine goes_ Tryd.func14 (by kernel_rfl) rfl #[.agg #[.int .i64 a0_0, .int .u64 a0_1, .int .u64 a0_2, .int .u64 a0_3, .int .u64 a0_4]] (by rfl) rfl rfl ar_ ?_
         with_reducible refine (XSome5.calls a0_0 a0_1 a0_2 a0_3 a0_4 t280 t281 t282 t283 t284 _ A6.out).mono ?_
         rintro e w22 ⟨rfl, hb⟩
         refine ⟨_, rfl, ?_⟩
         replace BK273 := bb_ BK273.out hb
         replace BK286 := bb_ BK286.out hb
         replace HB := Aside0.mk (below_step (hg2_ GE273.out GE286.out) hb)
         (try clear hb)
         (try clear hb2)
         (try clear hk)
         (try clear hi)
         refine hK.out _ _ ⟨(blk_cell BK273.out 0).trans rfl, (blk_cell BK273.out 1).trans rfl, (blk_cell BK273.out 2).trans rfl, (blk_cell BK273.out 3).trans rfl, (blk_cell BK273.out 4).trans rfl⟩ (fun hHeld => ?_)
         clear hK K
         refine norm_ (a' := ?_) ?_ ?_
         rotate_left
         ·
          show Act.put _ (some 17) _ = _
          simp only [puts_]
          rfl
         exact norm_ (by first | (simp only [putAll, Act.put, List.setIfInBounds_toArray, List.set_cons_zero, List.set_cons_succ]; done) | (simp only [putAll, Act.put, List.setIfInBounds_toArray, List.set_cons_zero, List.set_cons_succ]; rfl)) (hJ1_3_5 (gb286) _ ⟨hHeld, (bk_ BK273.out), (bk_ BK286.out), GW286.out, GE286.out, NB273_286.out, NB286_273.out, (hg2_ GE273.out GE286.out)⟩)
        ·
         skip
         refine box_step ?hg (N := 5) ?hd (cs := #[.int .i64 0, .int .u64 0, .int .u64 0, .int .u64 0, .int .u64 0]) (t := 29) ?hr ?_; (case hd => rfl); (case hg => rfl); (case hr => first | (go_simp; done) | (go_simp; rfl))
         intro gb285 hg w22 hbox hb
         have BK285 := Aside0.mk (hbox)
         have GW285 := Aside0.mk ((by rw [hg]; exact (below_size (hg2_ GE273.out GE286.out)) : w.heap.size ≤ gb285))
         have GE285 := Aside0.mk ((by rw [hg]; exact (below_size (hg2_ GE273.out GE286.out)) : w.heap.size ≤ gb285))
         have NB273_285 := Aside0.mk ((by rw [hg]; exact ne1_ BK273.out : gb273 ≠ gb285))
         have NB285_273 := Aside0.mk ((by rw [hg]; exact ne2_ BK273.out : gb285 ≠ gb273))
         have NB286_285 := Aside0.mk ((by rw [hg]; exact ne1_ BK286.out : gb286 ≠ gb285))
         have NB285_286 := Aside0.mk ((by rw [hg]; exact ne2_ BK286.out : gb285 ≠ gb286))
         replace BK273 := bb_ BK273.out hb
         replace BK286 := bb_ BK286.out hb
         replace HB := Aside0.mk (below_step (hg2_ GE273.out GE286.out) hb)
         clear hb hbox hg
         refine hK.out _ _ ⟨(blk_cell BK273.out 0).trans rfl, (blk_cell BK273.out 1).trans rfl, (blk_cell BK273.out 2).trans rfl, (blk_cell BK273.out 3).trans rfl, (blk_cell BK273.out 4).trans rfl⟩ (fun hHeld => ?_)
         clear hK K
         refine norm_ (a' := ?_) ?_ ?_
         rotate_left
         ·
          show Act.put _ (some 5) _ = _
          simp only [puts_]
          rfl
         exact norm_ (by first | (simp only [putAll, Act.put, List.setIfInBounds_toArray, List.set_cons_zero, List.set_cons_succ]; done) | (simp only [putAll, Act.put, List.setIfInBounds_toArray, List.set_cons_zero, List.set_cons_succ]; rfl)) (hJ1_4_5 (gb285, gb286) _ ⟨hHeld, (bk_ BK273.out), (bk_ BK285.out), (bk_ BK286.out), GW285.out, GE285.out, NB273_285.out, NB285_273.out, NB286_285.out, NB285_286.out, GW286.out, GE286.out, NB273_286.out, NB286_273.out, (hg3_ GE273.out GE286.out GE285.out)⟩)
      ·
       skip
       rintro gb285 w21 ⟨hS_, h0_, h1_, h2_, h3_, h4_, h5_, h6_⟩
       have n0_ : Aside0 (w21.heap[gb273]? = some (.cells #[.int .i64 a0_0, .int .u64 a0_1, .int .u64 a0_2, .int .u64 a0_3, .int .u64 a0_4] 25 (0, 0))) := ⟨h0_⟩
       have n1_ : Aside0 (w21.heap[gb285]? = some (.cells #[.int .i64 0, .int .u64 0, .int .u64 0, .int .u64 0, .int .u64 0] 29 (0, 0))) := ⟨h1_⟩
       have n2_ : Aside0 (w.heap.size ≤ gb285) := ⟨h2_⟩
       have n3_ : Aside0 (w.heap.size ≤ gb285) := ⟨h3_⟩
       have n4_ : Aside0 (gb273 ≠ gb285) := ⟨h4_⟩
       have n5_ : Aside0 (gb285 ≠ gb273) := ⟨h5_⟩
       have n6_ : Aside0 (Below w.heap.size w w21) := ⟨h6_⟩
       clear BK273
       clear HB
       clear h0_ h1_ h2_ h3_ h4_ h5_ h6_
       have BK273 := n0_
       have BK285 := n1_
       have GW285 := n2_
       have GE285 := n3_
       have NB273_285 := n4_
       have NB285_273 := n5_
       have HB := n6_
       clear n0_ n1_ n2_ n3_ n4_ n5_ n6_
       have hHeld : w21.cell? ⟨gb273, 0, none⟩ = some (.int .i64 a0_0) ∧ w21.cell? ⟨gb273, 1, none⟩ = some (.int .u64 a0_1) ∧ w21.cell? ⟨gb273, 2, none⟩ = some (.int .u64 a0_2) ∧ w21.cell? ⟨gb273, 3, none⟩ = some (.int .u64 a0_3) ∧ w21.cell? ⟨gb273, 4, none⟩ = some (.int .u64 a0_4) := hS_
       refine norm_ (a' := ?_) ?_ ?_
       rotate_left
       ·
        simp only [putAll, Act.put, List.setIfInBounds_toArray, List.set_cons_zero, List.set_cons_succ]
        rfl
       refine two_ (i := 3) (j := 5) (Ni := some 17) (Nj := some 6) (m_ 8 31) (m_ 8 55) rfl rfl rfl rfl (two_of HT_.out (by kernel_rfl)) (by decide) (by decide) (fun K hK => ?_) (fun K hK => ?_)
       ·
        skip
        refine goes_ Tryd.func14 (by kernel_rfl) rfl #[.agg #[.int .i64 a0_0, .int .u64 a0_1, .int .u64 a0_2, .int .u64 a0_3, .int .u64 a0_4]] (by rfl) rfl rfl ar_ ?_
        with_reducible refine (XSome5.calls a0_0 a0_1 a0_2 a0_3 a0_4 t280 t281 t282 t283 t284 _ A6.out).mono ?_
        rintro e w22 ⟨rfl, hb⟩
        refine ⟨_, rfl, ?_⟩
        replace BK273 := bb_ BK273.out hb
        replace BK285 := bb_ BK285.out hb
        replace HB := Aside0.mk (below_step (hg2_ GE273.out GE285.out) hb)
        (try clear hb)
        (try clear hb2)
        (try clear hk)
        (try clear hi)
        refine hK.out _ _ ⟨(blk_cell BK273.out 0).trans rfl, (blk_cell BK273.out 1).trans rfl, (blk_cell BK273.out 2).trans rfl, (blk_cell BK273.out 3).trans rfl, (blk_cell BK273.out 4).trans rfl⟩ (fun hHeld => ?_)
        clear hK K
        refine norm_ (a' := ?_) ?_ ?_
        rotate_left
        ·
         show Act.put _ (some 17) _ = _
         simp only [puts_]
         rfl
        exact norm_ (by first | (simp only [putAll, Act.put, List.setIfInBounds_toArray, List.set_cons_zero, List.set_cons_succ]; done) | (simp only [putAll, Act.put, List.setIfInBounds_toArray, List.set_cons_zero, List.set_cons_succ]; rfl)) (hJ1_3_4 (gb285) _ ⟨hHeld, (bk_ BK273.out), (bk_ BK285.out), GW285.out, GE285.out, NB273_285.out, NB285_273.out, (hg2_ GE273.out GE285.out)⟩)
       ·
        skip
        refine box_step ?hg (N := 6) ?hd (cs := #[.int .i64 0, .int .u64 0, .int .u64 0, .int .u64 0, .int .u64 0]) (t := 29) ?hr ?_; (case hd => rfl); (case hg => rfl); (case hr => first | (go_simp; done) | (go_simp; rfl))
        intro gb286 hg w22 hbox hb
        have BK286 := Aside0.mk (hbox)
        have GW286 := Aside0.mk ((by rw [hg]; exact (below_size (hg2_ GE273.out GE285.out)) : w.heap.size ≤ gb286))
        have GE286 := Aside0.mk ((by rw [hg]; exact (below_size (hg2_ GE273.out GE285.out)) : w.heap.size ≤ gb286))
        have NB273_286 := Aside0.mk ((by rw [hg]; exact ne1_ BK273.out : gb273 ≠ gb286))
        have NB286_273 := Aside0.mk ((by rw [hg]; exact ne2_ BK273.out : gb286 ≠ gb273))
        have NB285_286 := Aside0.mk ((by rw [hg]; exact ne1_ BK285.out : gb285 ≠ gb286))
        have NB286_285 := Aside0.mk ((by rw [hg]; exact ne2_ BK285.out : gb286 ≠ gb285))
        replace BK273 := bb_ BK273.out hb
        replace BK285 := bb_ BK285.out hb
        replace HB := Aside0.mk (below_step (hg2_ GE273.out GE285.out) hb)
        clear hb hbox hg
        refine hK.out _ _ ⟨(blk_cell BK273.out 0).trans rfl, (blk_cell BK273.out 1).trans rfl, (blk_cell BK273.out 2).trans rfl, (blk_cell BK273.out 3).trans rfl, (blk_cell BK273.out 4).trans rfl⟩ (fun hHeld => ?_)
        clear hK K
        refine norm_ (a' := ?_) ?_ ?_
        rotate_left
        ·
         show Act.put _ (some 6) _ = _
         simp only [puts_]
         rfl
        exact norm_ (by first | (simp only [putAll, Act.put, List.setIfInBounds_toArray, List.set_cons_zero, List.set_cons_succ]; done) | (simp only [putAll, Act.put, List.setIfInBounds_toArray, List.set_cons_zero, List.set_cons_succ]; rfl)) (hJ1_4_5 (gb285, gb286) _ ⟨hHeld, (bk_ BK273.out), (bk_ BK285.out), (bk_ BK286.out), GW285.out, GE285.out, NB273_285.out, NB285_273.out, NB286_285.out, NB285_286.out, GW286.out, GE286.out, NB273_286.out, NB286_273.out, (hg3_ GE273.out GE285.out GE286.out)⟩)
     ·
      skip
      rintro _ w21 ⟨hS_, h0_, h1_⟩
      have n0_ : Aside0 (w21.heap[gb273]? = some (.cells #[.int .i64 a0_0, .int .u64 a0_1, .int .u64 a0_2, .int .u64 a0_3, .int .u64 a0_4] 25 (0, 0))) := ⟨h0_⟩
      have n1_ : Aside0 (Below w.heap.size w w21) := ⟨h1_⟩
      clear BK273
      clear HB
      clear h0_ h1_
      have BK273 := n0_
      have HB := n1_
      clear n0_ n1_
      have hHeld : w21.cell? ⟨gb273, 0, none⟩ = some (.int .i64 a0_0) ∧ w21.cell? ⟨gb273, 1, none⟩ = some (.int .u64 a0_1) ∧ w21.cell? ⟨gb273, 2, none⟩ = some (.int .u64 a0_2) ∧ w21.cell? ⟨gb273, 3, none⟩ = some (.int .u64 a0_3) ∧ w21.cell? ⟨gb273, 4, none⟩ = some (.int .u64 a0_4) := hS_
      refine norm_ (a' := ?_) ?_ ?_
      rotate_left
      ·
       simp only [putAll, Act.put, List.setIfInBounds_toArray, List.set_cons_zero, List.set_cons_succ]
       rfl
      refine two_ (i := 4) (j := 5) (Ni := some 5) (Nj := some 6) (m_ 8 31) (m_ 8 47) rfl rfl rfl rfl (two_of HT_.out (by kernel_rfl)) (by decide) (by decide) (fun K hK => ?_) (fun K hK => ?_)
      ·
       skip
       refine box_step ?hg (N := 5) ?hd (cs := #[.int .i64 0, .int .u64 0, .int .u64 0, .int .u64 0, .int .u64 0]) (t := 29) ?hr ?_; (case hd => rfl); (case hg => rfl); (case hr => first | (go_simp; done) | (go_simp; rfl))
       intro gb285 hg w22 hbox hb
       have BK285 := Aside0.mk (hbox)
       have GW285 := Aside0.mk ((by rw [hg]; exact (below_size (hg_ GE273.out)) : w.heap.size ≤ gb285))
       have GE285 := Aside0.mk ((by rw [hg]; exact (below_size (hg_ GE273.out)) : w.heap.size ≤ gb285))
       have NB273_285 := Aside0.mk ((by rw [hg]; exact ne1_ BK273.out : gb273 ≠ gb285))
       have NB285_273 := Aside0.mk ((by rw [hg]; exact ne2_ BK273.out : gb285 ≠ gb273))
       replace BK273 := bb_ BK273.out hb
       replace HB := Aside0.mk (below_step (hg_ GE273.out) hb)
       clear hb hbox hg
       refine hK.out _ _ ⟨(blk_cell BK273.out 0).trans rfl, (blk_cell BK273.out 1).trans rfl, (blk_cell BK273.out 2).trans rfl, (blk_cell BK273.out 3).trans rfl, (blk_cell BK273.out 4).trans rfl⟩ (fun hHeld => ?_)
       clear hK K
       refine norm_ (a' := ?_) ?_ ?_
       rotate_left
       ·
        show Act.put _ (some 5) _ = _
        simp only [puts_]
        rfl
       exact norm_ (by first | (simp only [putAll, Act.put, List.setIfInBounds_toArray, List.set_cons_zero, List.set_cons_succ]; done) | (simp only [putAll, Act.put, List.setIfInBounds_toArray, List.set_cons_zero, List.set_cons_succ]; rfl)) (hJ1_3_4 (gb285) _ ⟨hHeld, (bk_ BK273.out), (bk_ BK285.out), GW285.out, GE285.out, NB273_285.out, NB285_273.out, (hg2_ GE273.out GE285.out)⟩)
      ·
       skip
       refine box_step ?hg (N := 6) ?hd (cs := #[.int .i64 0, .int .u64 0, .int .u64 0, .int .u64 0, .int .u64 0]) (t := 29) ?hr ?_; (case hd => rfl); (case hg => rfl); (case hr => first | (go_simp; done) | (go_simp; rfl))
       intro gb286 hg w22 hbox hb
       have BK286 := Aside0.mk (hbox)
       have GW286 := Aside0.mk ((by rw [hg]; exact (below_size (hg_ GE273.out)) : w.heap.size ≤ gb286))
       have GE286 := Aside0.mk ((by rw [hg]; exact (below_size (hg_ GE273.out)) : w.heap.size ≤ gb286))
       have NB273_286 := Aside0.mk ((by rw [hg]; exact ne1_ BK273.out : gb273 ≠ gb286))
       have NB286_273 := Aside0.mk ((by rw [hg]; exact ne2_ BK273.out : gb286 ≠ gb273))
       replace BK273 := bb_ BK273.out hb
       replace HB := Aside0.mk (below_step (hg_ GE273.out) hb)
       clear hb hbox hg
       refine hK.out _ _ ⟨(blk_cell BK273.out 0).trans rfl, (blk_cell BK273.out 1).trans rfl, (blk_cell BK273.out 2).trans rfl, (blk_cell BK273.out 3).trans rfl, (blk_cell BK273.out 4).trans rfl⟩ (fun hHeld => ?_)
       clear hK K
       refine norm_ (a' := ?_) ?_ ?_
       rotate_left
       ·
        show Act.put _ (some 6) _ = _
        simp only [puts_]
        rfl
       exact norm_ (by first | (simp only [putAll, Act.put, List.setIfInBounds_toArray, List.set_cons_zero, List.set_cons_succ]; done) | (simp only [putAll, Act.put, List.setIfInBounds_toArray, List.set_cons_zero, List.set_cons_succ]; rfl)) (hJ1_3_5 (gb286) _ ⟨hHeld, (bk_ BK273.out), (bk_ BK286.out), GW286.out, GE286.out, NB273_286.out, NB286_273.out, (hg2_ GE273.out GE286.out)⟩)
    ·
     skip
     rintro ⟨gb285, gb286⟩ w22 ⟨hS_, h0_, h1_, h2_, h3_, h4_, h5_, h6_, h7_, h8_, h9_, h10_, h11_, h12_, h13_⟩
     have n0_ : Aside0 (w22.heap[gb273]? = some (.cells #[.int .i64 a0_0, .int .u64 a0_1, .int .u64 a0_2, .int .u64 a0_3, .int .u64 a0_4] 25 (0, 0))) := ⟨h0_⟩
     have n1_ : Aside0 (w22.heap[gb285]? = some (.cells #[.int .i64 0, .int .u64 0, .int .u64 0, .int .u64 0, .int .u64 0] 29 (0, 0))) := ⟨h1_⟩
     have n2_ : Aside0 (w22.heap[gb286]? = some (.cells #[.int .i64 0, .int .u64 0, .int .u64 0, .int .u64 0, .int .u64 0] 29 (0, 0))) := ⟨h2_⟩
     have n3_ : Aside0 (w.heap.size ≤ gb285) := ⟨h3_⟩
     have n4_ : Aside0 (w.heap.size ≤ gb285) := ⟨h4_⟩
     have n5_ : Aside0 (gb273 ≠ gb285) := ⟨h5_⟩
     have n6_ : Aside0 (gb285 ≠ gb273) := ⟨h6_⟩
     have n7_ : Aside0 (gb286 ≠ gb285) := ⟨h7_⟩
     have n8_ : Aside0 (gb285 ≠ gb286) := ⟨h8_⟩
     have n9_ : Aside0 (w.heap.size ≤ gb286) := ⟨h9_⟩
     have n10_ : Aside0 (w.heap.size ≤ gb286) := ⟨h10_⟩
     have n11_ : Aside0 (gb273 ≠ gb286) := ⟨h11_⟩
     have n12_ : Aside0 (gb286 ≠ gb273) := ⟨h12_⟩
     have n13_ : Aside0 (Below w.heap.size w w22) := ⟨h13_⟩
     clear BK273
     clear HB
     clear h0_ h1_ h2_ h3_ h4_ h5_ h6_ h7_ h8_ h9_ h10_ h11_ h12_ h13_
     have BK273 := n0_
     have BK285 := n1_
     have BK286 := n2_
     have GW285 := n3_
     have GE285 := n4_
     have NB273_285 := n5_
     have NB285_273 := n6_
     have NB286_285 := n7_
     have NB285_286 := n8_
     have GW286 := n9_
     have GE286 := n10_
     have NB273_286 := n11_
     have NB286_273 := n12_
     have HB := n13_
     clear n0_ n1_ n2_ n3_ n4_ n5_ n6_ n7_ n8_ n9_ n10_ n11_ n12_ n13_
     have hHeld : w22.cell? ⟨gb273, 0, none⟩ = some (.int .i64 a0_0) ∧ w22.cell? ⟨gb273, 1, none⟩ = some (.int .u64 a0_1) ∧ w22.cell? ⟨gb273, 2, none⟩ = some (.int .u64 a0_2) ∧ w22.cell? ⟨gb273, 3, none⟩ = some (.int .u64 a0_3) ∧ w22.cell? ⟨gb273, 4, none⟩ = some (.int .u64 a0_4) := hS_
     refine norm_ (a' := ?_) ?_ ?_
     rotate_left
     ·
      simp only [putAll, Act.put, List.setIfInBounds_toArray, List.set_cons_zero, List.set_cons_succ]
      rfl
     refine one_ (i := 3) (N := some 17) (m_ 8 63) rfl rfl (one_of HT_.out (by kernel_rfl)) (by decide) (fun K hK => ?_)
     refine goes_ Tryd.func14 (by kernel_rfl) rfl #[.agg #[.int .i64 a0_0, .int .u64 a0_1, .int .u64 a0_2, .int .u64 a0_3, .int .u64 a0_4]] (by rfl) rfl rfl ar_ ?_
     with_reducible refine (XSome5.calls a0_0 a0_1 a0_2 a0_3 a0_4 t280 t281 t282 t283 t284 _ A6.out).mono ?_
     rintro e w23 ⟨rfl, hb⟩
     refine ⟨_, rfl, ?_⟩
     replace BK273 := bb_ BK273.out hb
     replace BK285 := bb_ BK285.out hb
     replace BK286 := bb_ BK286.out hb
     replace HB := Aside0.mk (below_step (hg3_ GE273.out GE285.out GE286.out) hb)
     (try clear hb)
     (try clear hb2)
     (try clear hk)
     (try clear hi)
     refine hK.out _ _ ⟨(blk_cell BK273.out 0).trans rfl, (blk_cell BK273.out 1).trans rfl, (blk_cell BK273.out 2).trans rfl, (blk_cell BK273.out 3).trans rfl, (blk_cell BK273.out 4).trans rfl⟩ (fun hHeld => ?_)
     clear hK K
     refine norm_ (a' := ?_) ?_ ?_
     rotate_left
     ·
      show Act.put _ (some 17) _ = _
      simp only [puts_]
      rfl
     exact norm_ (by first | (simp only [putAll, Act.put, List.setIfInBounds_toArray, List.set_cons_zero, List.set_cons_succ]; done) | (simp only [putAll, Act.put, List.setIfInBounds_toArray, List.set_cons_zero, List.set_cons_succ]; rfl)) (hJ1_3_4_5 (gb285, gb286) _ ⟨hHeld, (bk_ BK273.out), (bk_ BK285.out), (bk_ BK286.out), GW285.out, GE285.out, NB273_285.out, NB285_273.out, NB286_285.out, NB285_286.out, GW286.out, GE286.out, NB273_286.out, NB286_273.out, (hg3_ GE273.out GE285.out GE286.out)⟩)
   ·
    skip
    rintro gb286 w22 ⟨hS_, h0_, h1_, h2_, h3_, h4_, h5_, h6_⟩
    have n0_ : Aside0 (w22.heap[gb273]? = some (.cells #[.int .i64 a0_0, .int .u64 a0_1, .int .u64 a0_2, .int .u64 a0_3, .int .u64 a0_4] 25 (0, 0))) := ⟨h0_⟩
    have n1_ : Aside0 (w22.heap[gb286]? = some (.cells #[.int .i64 0, .int .u64 0, .int .u64 0, .int .u64 0, .int .u64 0] 29 (0, 0))) := ⟨h1_⟩
    have n2_ : Aside0 (w.heap.size ≤ gb286) := ⟨h2_⟩
    have n3_ : Aside0 (w.heap.size ≤ gb286) := ⟨h3_⟩
    have n4_ : Aside0 (gb273 ≠ gb286) := ⟨h4_⟩
    have n5_ : Aside0 (gb286 ≠ gb273) := ⟨h5_⟩
    have n6_ : Aside0 (Below w.heap.size w w22) := ⟨h6_⟩
    clear BK273
    clear HB
    clear h0_ h1_ h2_ h3_ h4_ h5_ h6_
    have BK273 := n0_
    have BK286 := n1_
    have GW286 := n2_
    have GE286 := n3_
    have NB273_286 := n4_
    have NB286_273 := n5_
    have HB := n6_
    clear n0_ n1_ n2_ n3_ n4_ n5_ n6_
    have hHeld : w22.cell? ⟨gb273, 0, none⟩ = some (.int .i64 a0_0) ∧ w22.cell? ⟨gb273, 1, none⟩ = some (.int .u64 a0_1) ∧ w22.cell? ⟨gb273, 2, none⟩ = some (.int .u64 a0_2) ∧ w22.cell? ⟨gb273, 3, none⟩ = some (.int .u64 a0_3) ∧ w22.cell? ⟨gb273, 4, none⟩ = some (.int .u64 a0_4) := hS_
    refine norm_ (a' := ?_) ?_ ?_
    rotate_left
    ·
     simp only [putAll, Act.put, List.setIfInBounds_toArray, List.set_cons_zero, List.set_cons_succ]
     rfl
    refine one_ (i := 4) (N := some 5) (m_ 8 63) rfl rfl (one_of HT_.out (by kernel_rfl)) (by decide) (fun K hK => ?_)
    refine box_step ?hg (N := 5) ?hd (cs := #[.int .i64 0, .int .u64 0, .int .u64 0, .int .u64 0, .int .u64 0]) (t := 29) ?hr ?_; (case hd => rfl); (case hg => rfl); (case hr => first | (go_simp; done) | (go_simp; rfl))
    intro gb285 hg w23 hbox hb
    have BK285 := Aside0.mk (hbox)
    have GW285 := Aside0.mk ((by rw [hg]; exact (below_size (hg2_ GE273.out GE286.out)) : w.heap.size ≤ gb285))
    have GE285 := Aside0.mk ((by rw [hg]; exact (below_size (hg2_ GE273.out GE286.out)) : w.heap.size ≤ gb285))
    have NB273_285 := Aside0.mk ((by rw [hg]; exact ne1_ BK273.out : gb273 ≠ gb285))
    have NB285_273 := Aside0.mk ((by rw [hg]; exact ne2_ BK273.out : gb285 ≠ gb273))
    have NB286_285 := Aside0.mk ((by rw [hg]; exact ne1_ BK286.out : gb286 ≠ gb285))
    have NB285_286 := Aside0.mk ((by rw [hg]; exact ne2_ BK286.out : gb285 ≠ gb286))
    replace BK273 := bb_ BK273.out hb
    replace BK286 := bb_ BK286.out hb
    replace HB := Aside0.mk (below_step (hg2_ GE273.out GE286.out) hb)
    clear hb hbox hg
    refine hK.out _ _ ⟨(blk_cell BK273.out 0).trans rfl, (blk_cell BK273.out 1).trans rfl, (blk_cell BK273.out 2).trans rfl, (blk_cell BK273.out 3).trans rfl, (blk_cell BK273.out 4).trans rfl⟩ (fun hHeld => ?_)
    clear hK K
    refine norm_ (a' := ?_) ?_ ?_
    rotate_left
    ·
     show Act.put _ (some 5) _ = _
     simp only [puts_]
     rfl
    exact norm_ (by first | (simp only [putAll, Act.put, List.setIfInBounds_toArray, List.set_cons_zero, List.set_cons_succ]; done) | (simp only [putAll, Act.put, List.setIfInBounds_toArray, List.set_cons_zero, List.set_cons_succ]; rfl)) (hJ1_3_4_5 (gb285, gb286) _ ⟨hHeld, (bk_ BK273.out), (bk_ BK285.out), (bk_ BK286.out), GW285.out, GE285.out, NB273_285.out, NB285_273.out, NB286_285.out, NB285_286.out, GW286.out, GE286.out, NB273_286.out, NB286_273.out, (hg3_ GE273.out GE286.out GE285.out)⟩)
  ·
   skip
   rintro gb285 w22 ⟨hS_, h0_, h1_, h2_, h3_, h4_, h5_, h6_⟩
   have n0_ : Aside0 (w22.heap[gb273]? = some (.cells #[.int .i64 a0_0, .int .u64 a0_1, .int .u64 a0_2, .int .u64 a0_3, .int .u64 a0_4] 25 (0, 0))) := ⟨h0_⟩
   have n1_ : Aside0 (w22.heap[gb285]? = some (.cells #[.int .i64 0, .int .u64 0, .int .u64 0, .int .u64 0, .int .u64 0] 29 (0, 0))) := ⟨h1_⟩
   have n2_ : Aside0 (w.heap.size ≤ gb285) := ⟨h2_⟩
   have n3_ : Aside0 (w.heap.size ≤ gb285) := ⟨h3_⟩
   have n4_ : Aside0 (gb273 ≠ gb285) := ⟨h4_⟩
   have n5_ : Aside0 (gb285 ≠ gb273) := ⟨h5_⟩
   have n6_ : Aside0 (Below w.heap.size w w22) := ⟨h6_⟩
   clear BK273
   clear HB
   clear h0_ h1_ h2_ h3_ h4_ h5_ h6_
   have BK273 := n0_
   have BK285 := n1_
   have GW285 := n2_
   have GE285 := n3_
   have NB273_285 := n4_
   have NB285_273 := n5_
   have HB := n6_
   clear n0_ n1_ n2_ n3_ n4_ n5_ n6_
   have hHeld : w22.cell? ⟨gb273, 0, none⟩ = some (.int .i64 a0_0) ∧ w22.cell? ⟨gb273, 1, none⟩ = some (.int .u64 a0_1) ∧ w22.cell? ⟨gb273, 2, none⟩ = some (.int .u64 a0_2) ∧ w22.cell? ⟨gb273, 3, none⟩ = some (.int .u64 a0_3) ∧ w22.cell? ⟨gb273, 4, none⟩ = some (.int .u64 a0_4) := hS_
   refine norm_ (a' := ?_) ?_ ?_
   rotate_left
   ·
    simp only [putAll, Act.put, List.setIfInBounds_toArray, List.set_cons_zero, List.set_cons_succ]
    rfl
   refine one_ (i := 5) (N := some 6) (m_ 8 63) rfl rfl (one_of HT_.out (by kernel_rfl)) (by decide) (fun K hK => ?_)
   refine box_step ?hg (N := 6) ?hd (cs := #[.int .i64 0, .int .u64 0, .int .u64 0, .int .u64 0, .int .u64 0]) (t := 29) ?hr ?_; (case hd => rfl); (case hg => rfl); (case hr => first | (go_simp; done) | (go_simp; rfl))
   intro gb286 hg w23 hbox hb
   have BK286 := Aside0.mk (hbox)
   have GW286 := Aside0.mk ((by rw [hg]; exact (below_size (hg2_ GE273.out GE285.out)) : w.heap.size ≤ gb286))
   have GE286 := Aside0.mk ((by rw [hg]; exact (below_size (hg2_ GE273.out GE285.out)) : w.heap.size ≤ gb286))
   have NB273_286 := Aside0.mk ((by rw [hg]; exact ne1_ BK273.out : gb273 ≠ gb286))
   have NB286_273 := Aside0.mk ((by rw [hg]; exact ne2_ BK273.out : gb286 ≠ gb273))
   have NB285_286 := Aside0.mk ((by rw [hg]; exact ne1_ BK285.out : gb285 ≠ gb286))
   have NB286_285 := Aside0.mk ((by rw [hg]; exact ne2_ BK285.out : gb286 ≠ gb285))
   replace BK273 := bb_ BK273.out hb
   replace BK285 := bb_ BK285.out hb
   replace HB := Aside0.mk (below_step (hg2_ GE273.out GE285.out) hb)
   clear hb hbox hg
   refine hK.out _ _ ⟨(blk_cell BK273.out 0).trans rfl, (blk_cell BK273.out 1).trans rfl, (blk_cell BK273.out 2).trans rfl, (blk_cell BK273.out 3).trans rfl, (blk_cell BK273.out 4).trans rfl⟩ (fun hHeld => ?_)
   clear hK K
   refine norm_ (a' := ?_) ?_ ?_
   rotate_left
   ·
    show Act.put _ (some 6) _ = _
    simp only [puts_]
    rfl
   exact norm_ (by first | (simp only [putAll, Act.put, List.setIfInBounds_toArray, List.set_cons_zero, List.set_cons_succ]; done) | (simp only [putAll, Act.put, List.setIfInBounds_toArray, List.set_cons_zero, List.set_cons_succ]; rfl)) (hJ1_3_4_5 (gb285, gb286) _ ⟨hHeld, (bk_ BK273.out), (bk_ BK285.out), (bk_ BK286.out), GW285.out, GE285.out, NB273_285.out, NB285_273.out, NB286_285.out, NB285_286.out, GW286.out, GE286.out, NB273_286.out, NB286_273.out, (hg3_ GE273.out GE285.out GE286.out)⟩)
 rintro ⟨gb285, gb286⟩ w23 ⟨hS_, h0_, h1_, h2_, h3_, h4_, h5_, h6_, h7_, h8_, h9_, h10_, h11_, h12_, h13_⟩
 have n0_ : Aside0 (w23.heap[gb273]? = some (.cells #[.int .i64 a0_0, .int .u64 a0_1, .int .u64 a0_2, .int .u64 a0_3, .int .u64 a0_4] 25 (0, 0))) := ⟨h0_⟩
 have n1_ : Aside0 (w23.heap[gb285]? = some (.cells #[.int .i64 0, .int .u64 0, .int .u64 0, .int .u64 0, .int .u64 0] 29 (0, 0))) := ⟨h1_⟩
 have n2_ : Aside0 (w23.heap[gb286]? = some (.cells #[.int .i64 0, .int .u64 0, .int .u64 0, .int .u64 0, .int .u64 0] 29 (0, 0))) := ⟨h2_⟩
 have n3_ : Aside0 (w.heap.size ≤ gb285) := ⟨h3_⟩
 have n4_ : Aside0 (w.heap.size ≤ gb285) := ⟨h4_⟩
 have n5_ : Aside0 (gb273 ≠ gb285) := ⟨h5_⟩
 have n6_ : Aside0 (gb285 ≠ gb273) := ⟨h6_⟩
 have n7_ : Aside0 (gb286 ≠ gb285) := ⟨h7_⟩
 have n8_ : Aside0 (gb285 ≠ gb286) := ⟨h8_⟩
 have n9_ : Aside0 (w.heap.size ≤ gb286) := ⟨h9_⟩
 have n10_ : Aside0 (w.heap.size ≤ gb286) := ⟨h10_⟩
 have n11_ : Aside0 (gb273 ≠ gb286) := ⟨h11_⟩
 have n12_ : Aside0 (gb286 ≠ gb273) := ⟨h12_⟩
 have n13_ : Aside0 (Below w.heap.size w w23) := ⟨h13_⟩
 clear BK273
 clear HB
 clear h0_ h1_ h2_ h3_ h4_ h5_ h6_ h7_ h8_ h9_ h10_ h11_ h12_ h13_
 have BK273 := n0_
 have BK285 := n1_
 have BK286 := n2_
 have GW285 := n3_
 have GE285 := n4_
 have NB273_285 := n5_
 have NB285_273 := n6_
 have NB286_285 := n7_
 have NB285_286 := n8_
 have GW286 := n9_
 have GE286 := n10_
 have NB273_286 := n11_
 have NB286_273 := n12_
 have HB := n13_
 clear n0_ n1_ n2_ n3_ n4_ n5_ n6_ n7_ n8_ n9_ n10_ n11_ n12_ n13_
 have hHeld : w23.cell? ⟨gb273, 0, none⟩ = some (.int .i64 a0_0) ∧ w23.cell? ⟨gb273, 1, none⟩ = some (.int .u64 a0_1) ∧ w23.cell? ⟨gb273, 2, none⟩ = some (.int .u64 a0_2) ∧ w23.cell? ⟨gb273, 3, none⟩ = some (.int .u64 a0_3) ∧ w23.cell? ⟨gb273, 4, none⟩ = some (.int .u64 a0_4) := hS_
 refine norm_ (a' := ?_) ?_ ?_
 rotate_left
 ·
  simp only [putAll, Act.put, List.setIfInBounds_toArray, List.set_cons_zero, List.set_cons_succ]
  rfl
 refine one_ (i := 6) (N := none) (m_ 8 127) rfl rfl (one_of HT_.out (by kernel_rfl)) (by decide) (fun K hK => ?_)
 have hs24 : w23.cell? ⟨gb285, 0, none⟩ = some (.int .i64 0) := (blk_cell BK285.out 0).trans rfl
 have hfs24 := blk_frozen BK285.out 0
 have hns24_0 := NB273_285.out
 have hns24_2 := NB286_285.out
 have hms24_0 := NB285_273.out
 have hms24_2 := NB285_286.out
 have hs25 : w23.cell? ⟨gb285, 1, none⟩ = some (.int .u64 0) := (blk_cell BK285.out 1).trans rfl
 have hfs25 := blk_frozen BK285.out 1
 have hns25_0 := NB273_285.out
 have hns25_2 := NB286_285.out
 have hms25_0 := NB285_273.out
 have hms25_2 := NB285_286.out
 have hs26 : w23.cell? ⟨gb285, 2, none⟩ = some (.int .u64 0) := (blk_cell BK285.out 2).trans rfl
 have hfs26 := blk_frozen BK285.out 2
 have hns26_0 := NB273_285.out
 have hns26_2 := NB286_285.out
 have hms26_0 := NB285_273.out
 have hms26_2 := NB285_286.out
 have hs27 : w23.cell? ⟨gb285, 3, none⟩ = some (.int .u64 0) := (blk_cell BK285.out 3).trans rfl
 have hfs27 := blk_frozen BK285.out 3
 have hns27_0 := NB273_285.out
 have hns27_2 := NB286_285.out
 have hms27_0 := NB285_273.out
 have hms27_2 := NB285_286.out
 have hs28 : w23.cell? ⟨gb285, 4, none⟩ = some (.int .u64 0) := (blk_cell BK285.out 4).trans rfl
 have hfs28 := blk_frozen BK285.out 4
 have hns28_0 := NB273_285.out
 have hns28_2 := NB286_285.out
 have hms28_0 := NB285_273.out
 have hms28_2 := NB285_286.out
 refine skip_ (w1 := ?_) (by rfl) rfl ?_ ?_
 rotate_left
 ·
  go_simp
  rfl
 refine hK.out _ _ ⟨((cell_far (p := ⟨gb285, _, none⟩) NB273_285.out _).trans (((cell_far (p := ⟨gb285, _, none⟩) NB273_285.out _).trans (((cell_far (p := ⟨gb285, _, none⟩) NB273_285.out _).trans (((cell_far (p := ⟨gb285, _, none⟩) NB273_285.out _).trans (((cell_far (p := ⟨gb285, _, none⟩) NB273_285.out _).trans (hHeld.1)))))))))), ((cell_far (p := ⟨gb285, _, none⟩) NB273_285.out _).trans (((cell_far (p := ⟨gb285, _, none⟩) NB273_285.out _).trans (((cell_far (p := ⟨gb285, _, none⟩) NB273_285.out _).trans (((cell_far (p := ⟨gb285, _, none⟩) NB273_285.out _).trans (((cell_far (p := ⟨gb285, _, none⟩) NB273_285.out _).trans (hHeld.2.1)))))))))), ((cell_far (p := ⟨gb285, _, none⟩) NB273_285.out _).trans (((cell_far (p := ⟨gb285, _, none⟩) NB273_285.out _).trans (((cell_far (p := ⟨gb285, _, none⟩) NB273_285.out _).trans (((cell_far (p := ⟨gb285, _, none⟩) NB273_285.out _).trans (((cell_far (p := ⟨gb285, _, none⟩) NB273_285.out _).trans (hHeld.2.2.1)))))))))), ((cell_far (p := ⟨gb285, _, none⟩) NB273_285.out _).trans (((cell_far (p := ⟨gb285, _, none⟩) NB273_285.out _).trans (((cell_far (p := ⟨gb285, _, none⟩) NB273_285.out _).trans (((cell_far (p := ⟨gb285, _, none⟩) NB273_285.out _).trans (((cell_far (p := ⟨gb285, _, none⟩) NB273_285.out _).trans (hHeld.2.2.2.1)))))))))), ((cell_far (p := ⟨gb285, _, none⟩) NB273_285.out _).trans (((cell_far (p := ⟨gb285, _, none⟩) NB273_285.out _).trans (((cell_far (p := ⟨gb285, _, none⟩) NB273_285.out _).trans (((cell_far (p := ⟨gb285, _, none⟩) NB273_285.out _).trans (((cell_far (p := ⟨gb285, _, none⟩) NB273_285.out _).trans (hHeld.2.2.2.2))))))))))⟩ (fun hHeld => ?_)
 clear hK K
 refine one_ (i := 7) (N := none) (m_ 8 255) rfl rfl (one_of HT_.out (by kernel_rfl)) (by decide) (fun K hK => ?_)
 have hs29 : w23.cell? ⟨gb286, 0, none⟩ = some (.int .i64 0) := (blk_cell BK286.out 0).trans rfl
 have hfs29 := blk_frozen BK286.out 0
 have hns29_0 := NB273_286.out
 have hns29_1 := NB285_286.out
 have hms29_0 := NB286_273.out
 have hms29_1 := NB286_285.out
 have hs30 : w23.cell? ⟨gb286, 1, none⟩ = some (.int .u64 0) := (blk_cell BK286.out 1).trans rfl
 have hfs30 := blk_frozen BK286.out 1
 have hns30_0 := NB273_286.out
 have hns30_1 := NB285_286.out
 have hms30_0 := NB286_273.out
 have hms30_1 := NB286_285.out
 have hs31 : w23.cell? ⟨gb286, 2, none⟩ = some (.int .u64 0) := (blk_cell BK286.out 2).trans rfl
 have hfs31 := blk_frozen BK286.out 2
 have hns31_0 := NB273_286.out
 have hns31_1 := NB285_286.out
 have hms31_0 := NB286_273.out
 have hms31_1 := NB286_285.out
 have hs32 : w23.cell? ⟨gb286, 3, none⟩ = some (.int .u64 0) := (blk_cell BK286.out 3).trans rfl
 have hfs32 := blk_frozen BK286.out 3
 have hns32_0 := NB273_286.out
 have hns32_1 := NB285_286.out
 have hms32_0 := NB286_273.out
 have hms32_1 := NB286_285.out
 have hs33 : w23.cell? ⟨gb286, 4, none⟩ = some (.int .u64 0) := (blk_cell BK286.out 4).trans rfl
 have hfs33 := blk_frozen BK286.out 4
 have hns33_0 := NB273_286.out
 have hns33_1 := NB285_286.out
 have hms33_0 := NB286_273.out
 have hms33_1 := NB286_285.out
 refine skip_ (w1 := ?_) (by rfl) rfl ?_ ?_
 rotate_left
 ·
  go_simp
  rfl
 refine hK.out _ _ ⟨((cell_far (p := ⟨gb286, _, none⟩) NB273_286.out _).trans (((cell_far (p := ⟨gb286, _, none⟩) NB273_286.out _).trans (((cell_far (p := ⟨gb286, _, none⟩) NB273_286.out _).trans (((cell_far (p := ⟨gb286, _, none⟩) NB273_286.out _).trans (((cell_far (p := ⟨gb286, _, none⟩) NB273_286.out _).trans (hHeld.1)))))))))), ((cell_far (p := ⟨gb286, _, none⟩) NB273_286.out _).trans (((cell_far (p := ⟨gb286, _, none⟩) NB273_286.out _).trans (((cell_far (p := ⟨gb286, _, none⟩) NB273_286.out _).trans (((cell_far (p := ⟨gb286, _, none⟩) NB273_286.out _).trans (((cell_far (p := ⟨gb286, _, none⟩) NB273_286.out _).trans (hHeld.2.1)))))))))), ((cell_far (p := ⟨gb286, _, none⟩) NB273_286.out _).trans (((cell_far (p := ⟨gb286, _, none⟩) NB273_286.out _).trans (((cell_far (p := ⟨gb286, _, none⟩) NB273_286.out _).trans (((cell_far (p := ⟨gb286, _, none⟩) NB273_286.out _).trans (((cell_far (p := ⟨gb286, _, none⟩) NB273_286.out _).trans (hHeld.2.2.1)))))))))), ((cell_far (p := ⟨gb286, _, none⟩) NB273_286.out _).trans (((cell_far (p := ⟨gb286, _, none⟩) NB273_286.out _).trans (((cell_far (p := ⟨gb286, _, none⟩) NB273_286.out _).trans (((cell_far (p := ⟨gb286, _, none⟩) NB273_286.out _).trans (((cell_far (p := ⟨gb286, _, none⟩) NB273_286.out _).trans (hHeld.2.2.2.1)))))))))), ((cell_far (p := ⟨gb286, _, none⟩) NB273_286.out _).trans (((cell_far (p := ⟨gb286, _, none⟩) NB273_286.out _).trans (((cell_far (p := ⟨gb286, _, none⟩) NB273_286.out _).trans (((cell_far (p := ⟨gb286, _, none⟩) NB273_286.out _).trans (((cell_far (p := ⟨gb286, _, none⟩) NB273_286.out _).trans (hHeld.2.2.2.2))))))))))⟩ (fun hHeld => ?_)
 clear hK K
 refine done_ (done_of HT_.out (by kernel_rfl)) ?_
 have hnb34 := NB285_273.out
 have hnc34 := NB273_285.out
 have hnb35 := NB285_286.out
 have hnc35 := NB286_285.out
 obtain ⟨hcz36_0, hcz36_1, hcz36_2, hcz36_3, hcz36_4⟩ := cz5_ BK285.out
 obtain ⟨hfz36_0, hfz36_1, hfz36_2, hfz36_3, hfz36_4⟩ := fz5_ BK285.out
 by_cases c10 : t301 = 0
 rotate_left
 ·
  rw [if_neg c10] at H
  have c10b0 : (t301 == 0) = false := beq_eq_false_iff_ne.mpr c10
  have c10b1 : (t301 != 0) = true := bne_iff_ne.mpr c10
  replace H := Option.bind_eq_some_iff.mp H
  obtain ⟨t302, A2360, H⟩ := H
  replace H : (if t302 = t301 then (if t291 = true then (some false) else ((iso_Keeps.f k t275 t276 t277 t278 t279 a1).bind fun t303 => (some (!t303)))) else (some false)) = some r := H
  have A236 := Aside0.mk A2360
  clear A2360
  by_cases c237 : t302 = t301
  rotate_left
  ·
   rw [if_neg c237] at H
   have c237b0 : (t302 == t301) = false := beq_eq_false_iff_ne.mpr c237
   have c237b1 : (t302 != t301) = true := bne_iff_ne.mpr c237
   exact absurd ((Option.some.inj H).trans Hr_.out) (by decide)
  rw [if_pos c237] at H
  have c237b0 : (t302 == t301) = true := beq_iff_eq.mpr c237
  have c237b1 : (t302 != t301) = false := bne_eq_false_iff_eq.mpr c237
  clear c237
  by_cases c238 : t291 = true
  ·
   subst c238
   have H1 : (some false) = some r := by rw [if_pos rfl] at H; exact H
   clear H
   have H := H1
   clear H1
   exact absurd ((Option.some.inj H).trans Hr_.out) (by decide)
  replace c238 := Bool.eq_false_iff.mpr c238
  subst c238
  have H1 : ((iso_Keeps.f k t275 t276 t277 t278 t279 a1).bind fun t303 => (some (!t303))) = some r := by rw [if_neg (show ¬ (false = true) by decide)] at H; exact H
  clear H
  have H := H1
  clear H1
  replace H := Option.bind_eq_some_iff.mp H
  obtain ⟨t303, A2730, H⟩ := H
  replace H : (some (!t303)) = some r := H
  have A273 := Aside0.mk A2730
  clear A2730
  obtain rfl := Option.some.inj H
  try go_wp2_with (first | ((with_reducible refine gate_callee (f := 17) rfl ?_); refine goesL_ (some 20) rfl rfl Tryd.func17 (by kernel_rfl) rfl #[.agg #[.int .i64 t275, .int .u64 t276, .int .u64 t277, .int .u64 t278, .int .u64 t279]] rfl ar_ ?_; (with_reducible refine (iso_Check.calls k t275 t276 t277 t278 t279 t287 t290 false t292 _ ?side1 A7.out).mono ?_); (case side1 => exact HGSix.out.below (hg3_ GE273.out GE285.out GE286.out)); rintro e w295 ⟨v288, rfl, ho0, hb⟩; refine ⟨_, rfl, ?_⟩; have HO289 := Aside0.mk (Kd.R_lower ho0 (below_size (hg3_ GE273.out GE285.out GE286.out))); replace BK273 := Aside0.mk (blk_below (g := gb273) (o := .cells #[.int .i64 a0_0, .int .u64 a0_1, .int .u64 a0_2, .int .u64 a0_3, .int .u64 a0_4] 25 (0, 0)) (by (with_reducible repeat (first | apply bN_ | apply bD_ | apply bA_)); refine blk_far ?_ NB273_286.out _; (with_reducible repeat (first | apply bN_ | apply bD_ | apply bA_)); refine blk_far ?_ NB273_286.out _; (with_reducible repeat (first | apply bN_ | apply bD_ | apply bA_)); refine blk_far ?_ NB273_286.out _; (with_reducible repeat (first | apply bN_ | apply bD_ | apply bA_)); refine blk_far ?_ NB273_286.out _; (with_reducible repeat (first | apply bN_ | apply bD_ | apply bA_)); refine blk_far ?_ NB273_286.out _; (with_reducible repeat (first | apply bN_ | apply bD_ | apply bA_)); refine blk_far ?_ NB273_285.out _; (with_reducible repeat (first | apply bN_ | apply bD_ | apply bA_)); refine blk_far ?_ NB273_285.out _; (with_reducible repeat (first | apply bN_ | apply bD_ | apply bA_)); refine blk_far ?_ NB273_285.out _; (with_reducible repeat (first | apply bN_ | apply bD_ | apply bA_)); refine blk_far ?_ NB273_285.out _; (with_reducible repeat (first | apply bN_ | apply bD_ | apply bA_)); refine blk_far ?_ NB273_285.out _; (with_reducible repeat (first | apply bN_ | apply bD_ | apply bA_)); exact BK273.out) hb); replace BK285 := Aside0.mk (blk_below (g := gb285) (o := .cells #[.int .i64 t275, .int .u64 t276, .int .u64 t277, .int .u64 t278, .int .u64 t279] 29 (0, 0)) (by (with_reducible repeat (first | apply bN_ | apply bD_ | apply bA_)); refine blk_far ?_ NB285_286.out _; (with_reducible repeat (first | apply bN_ | apply bD_ | apply bA_)); refine blk_far ?_ NB285_286.out _; (with_reducible repeat (first | apply bN_ | apply bD_ | apply bA_)); refine blk_far ?_ NB285_286.out _; (with_reducible repeat (first | apply bN_ | apply bD_ | apply bA_)); refine blk_far ?_ NB285_286.out _; (with_reducible repeat (first | apply bN_ | apply bD_ | apply bA_)); refine blk_far ?_ NB285_286.out _; (with_reducible repeat (first | apply bN_ | apply bD_ | apply bA_)); refine blk_put (cs := #[.int .i64 t275, .int .u64 t276, .int .u64 t277, .int .u64 t278, .int .u64 0]) ?_ 4 _ rfl; (with_reducible repeat (first | apply bN_ | apply bD_ | apply bA_)); refine blk_put (cs := #[.int .i64 t275, .int .u64 t276, .int .u64 t277, .int .u64 0, .int .u64 0]) ?_ 3 _ rfl; (with_reducible repeat (first | apply bN_ | apply bD_ | apply bA_)); refine blk_put (cs := #[.int .i64 t275, .int .u64 t276, .int .u64 0, .int .u64 0, .int .u64 0]) ?_ 2 _ rfl; (with_reducible repeat (first | apply bN_ | apply bD_ | apply bA_)); refine blk_put (cs := #[.int .i64 t275, .int .u64 0, .int .u64 0, .int .u64 0, .int .u64 0]) ?_ 1 _ rfl; (with_reducible repeat (first | apply bN_ | apply bD_ | apply bA_)); refine blk_put (cs := #[.int .i64 0, .int .u64 0, .int .u64 0, .int .u64 0, .int .u64 0]) ?_ 0 _ rfl; (with_reducible repeat (first | apply bN_ | apply bD_ | apply bA_)); exact BK285.out) hb); replace BK286 := Aside0.mk (blk_below (g := gb286) (o := .cells #[.int .i64 t280, .int .u64 t281, .int .u64 t282, .int .u64 t283, .int .u64 t284] 29 (0, 0)) (by (with_reducible repeat (first | apply bN_ | apply bD_ | apply bA_)); refine blk_put (cs := #[.int .i64 t280, .int .u64 t281, .int .u64 t282, .int .u64 t283, .int .u64 0]) ?_ 4 _ rfl; (with_reducible repeat (first | apply bN_ | apply bD_ | apply bA_)); refine blk_put (cs := #[.int .i64 t280, .int .u64 t281, .int .u64 t282, .int .u64 0, .int .u64 0]) ?_ 3 _ rfl; (with_reducible repeat (first | apply bN_ | apply bD_ | apply bA_)); refine blk_put (cs := #[.int .i64 t280, .int .u64 t281, .int .u64 0, .int .u64 0, .int .u64 0]) ?_ 2 _ rfl; (with_reducible repeat (first | apply bN_ | apply bD_ | apply bA_)); refine blk_put (cs := #[.int .i64 t280, .int .u64 0, .int .u64 0, .int .u64 0, .int .u64 0]) ?_ 1 _ rfl; (with_reducible repeat (first | apply bN_ | apply bD_ | apply bA_)); refine blk_put (cs := #[.int .i64 0, .int .u64 0, .int .u64 0, .int .u64 0, .int .u64 0]) ?_ 0 _ rfl; (with_reducible repeat (first | apply bN_ | apply bD_ | apply bA_)); refine blk_far ?_ NB286_285.out _; (with_reducible repeat (first | apply bN_ | apply bD_ | apply bA_)); refine blk_far ?_ NB286_285.out _; (with_reducible repeat (first | apply bN_ | apply bD_ | apply bA_)); refine blk_far ?_ NB286_285.out _; (with_reducible repeat (first | apply bN_ | apply bD_ | apply bA_)); refine blk_far ?_ NB286_285.out _; (with_reducible repeat (first | apply bN_ | apply bD_ | apply bA_)); refine blk_far ?_ NB286_285.out _; (with_reducible repeat (first | apply bN_ | apply bD_ | apply bA_)); exact BK286.out) hb); replace HB := Aside0.mk (below_step (hg3_ GE273.out GE285.out GE286.out) hb); (try clear hb); (try clear hb2); (try clear hk); (try clear hi); (try clear ho0); (try simp only [errW_none, errW_some])) | ((with_reducible refine gate_dst (N := 7) rfl ?_); refine bx_ 7 #[.slice none 0 0, .int .i64 0] 37 ?_; intro gb293 hg w296 hbox hb; have BK293 := Aside0.mk (hbox); have GW293 := Aside0.mk ((by rw [hg]; exact (below_size (hg3_ GE273.out GE285.out GE286.out)) : w.heap.size ≤ gb293)); have GE293 := GW293; have NB273_293 := Aside0.mk ((by rw [hg]; exact ne1_ BK273.out : gb273 ≠ gb293)); have NB293_273 := Aside0.mk ((by rw [hg]; exact ne2_ BK273.out : gb293 ≠ gb273)); have NB285_293 := Aside0.mk ((by rw [hg]; exact ne1_ BK285.out : gb285 ≠ gb293)); have NB293_285 := Aside0.mk ((by rw [hg]; exact ne2_ BK285.out : gb293 ≠ gb285)); have NB286_293 := Aside0.mk ((by rw [hg]; exact ne1_ BK286.out : gb286 ≠ gb293)); have NB293_286 := Aside0.mk ((by rw [hg]; exact ne2_ BK286.out : gb293 ≠ gb286)); replace HO289 := Aside0.mk (Kd.R_below (kr_ HO289.out) hb); replace BK273 := bb_ BK273.out hb; replace BK285 := bb_ BK285.out hb; replace BK286 := bb_ BK286.out hb; replace HB := Aside0.mk (below_step (hg3_ GE273.out GE285.out GE286.out) hb); clear hb hbox hg; obtain ⟨Ao297, co297, eo297⟩ := Kd.R_slice HO289.out; subst eo297; have hnb298 := NB293_273.out; have hnc298 := NB273_293.out; have hnb299 := NB293_285.out; have hnc299 := NB285_293.out; have hnb300 := NB293_286.out; have hnc300 := NB286_293.out; obtain ⟨hcz301_0, hcz301_1⟩ := cz2_ BK293.out; obtain ⟨hfz301_0, hfz301_1⟩ := fz2_ BK293.out; obtain ⟨hcz302_0, hcz302_1, hcz302_2, hcz302_3, hcz302_4⟩ := cz5_ BK285.out; obtain ⟨hfz302_0, hfz302_1, hfz302_2, hfz302_3, hfz302_4⟩ := fz5_ BK285.out) | ((with_reducible refine gate_callee (f := 27) rfl ?_); refine goesL_ (some 25) rfl rfl Tryd.func27 (by kernel_rfl) rfl #[.agg #[.int .i64 t275, .int .u64 t276, .int .u64 t277, .int .u64 t278, .int .u64 t279]] rfl ar_ ?_; (with_reducible refine (XTold5.calls t275 t276 t277 t278 t279 t294 t295 t298 _ A8.out).mono ?_); rintro e w303 ⟨v296, v299, rfl, ho0, ho1, hb⟩; refine ⟨_, rfl, ?_⟩; have HO297 := Aside0.mk (Kd.V_lower (Kd.V_mono (ok' := fun k_ => some k_ ≠ (.slice Ao297 t287.length co297 : Value).ownBlock ∧ k_ ≠ gb273 ∧ k_ ≠ gb285 ∧ k_ ≠ gb286 ∧ k_ ≠ gb293) ho0 (fun k_ hk_ => ⟨(Kd.fresh' (Kd.R_lt (by (with_reducible repeat (first | apply Kd.R_alloc | apply Kd.R_drewN | apply Kd.R_drew)); exact (Kd.R_mono (Kd.R_far (p := ⟨gb293, 1, none⟩) (Kd.R_far (p := ⟨gb293, 0, none⟩) (Kd.R_types HO289.out BK293.out (by decide)) (fun _ hk => hk.2) (.slice Ao297 t287.length co297)) (fun _ hk => hk.2) (.int .i64 t290)) (fun _ h_ => h_.1)))) k_ hk_), (Kd.freshB (g := gb273) (o := .cells #[.int .i64 a0_0, .int .u64 a0_1, .int .u64 a0_2, .int .u64 a0_3, .int .u64 a0_4] 25 (0, 0)) (by (with_reducible repeat (first | apply bN_ | apply bD_ | apply bA_)); refine blk_far ?_ NB273_293.out _; (with_reducible repeat (first | apply bN_ | apply bD_ | apply bA_)); refine blk_far ?_ NB273_293.out _; (with_reducible repeat (first | apply bN_ | apply bD_ | apply bA_)); exact BK273.out) k_ hk_), (Kd.freshB (g := gb285) (o := .cells #[.int .i64 t275, .int .u64 t276, .int .u64 t277, .int .u64 t278, .int .u64 t279] 29 (0, 0)) (by (with_reducible repeat (first | apply bN_ | apply bD_ | apply bA_)); refine blk_far ?_ NB285_293.out _; (with_reducible repeat (first | apply bN_ | apply bD_ | apply bA_)); refine blk_far ?_ NB285_293.out _; (with_reducible repeat (first | apply bN_ | apply bD_ | apply bA_)); exact BK285.out) k_ hk_), (Kd.freshB (g := gb286) (o := .cells #[.int .i64 t280, .int .u64 t281, .int .u64 t282, .int .u64 t283, .int .u64 t284] 29 (0, 0)) (by (with_reducible repeat (first | apply bN_ | apply bD_ | apply bA_)); refine blk_far ?_ NB286_293.out _; (with_reducible repeat (first | apply bN_ | apply bD_ | apply bA_)); refine blk_far ?_ NB286_293.out _; (with_reducible repeat (first | apply bN_ | apply bD_ | apply bA_)); exact BK286.out) k_ hk_), (Kd.freshB (g := gb293) (o := .cells #[.slice Ao297 t287.length co297, .int .i64 t290] 37 (0, 0)) (by (with_reducible repeat (first | apply bN_ | apply bD_ | apply bA_)); refine blk_put (cs := #[.slice Ao297 t287.length co297, .int .i64 0]) ?_ 1 _ rfl; (with_reducible repeat (first | apply bN_ | apply bD_ | apply bA_)); refine blk_put (cs := #[.slice none 0 0, .int .i64 0]) ?_ 0 _ rfl; (with_reducible repeat (first | apply bN_ | apply bD_ | apply bA_)); exact BK293.out) k_ hk_)⟩)) (below_size (by repeat (first | (with_reducible first | exact HB.out | apply ba_ | apply bn_ | apply bd_ | refine below_set ?_ GE273.out | refine below_set ?_ GE285.out | refine below_set ?_ GE286.out | refine below_set ?_ GE293.out) | exact HB.out)))); have HO300 := Aside0.mk (Kd.V_lower (Kd.V_mono (ok' := fun k_ => some k_ ≠ (.slice Ao297 t287.length co297 : Value).ownBlock ∧ k_ ≠ gb273 ∧ k_ ≠ gb285 ∧ k_ ≠ gb286 ∧ k_ ≠ gb293) ho1 (fun k_ hk_ => ⟨(Kd.fresh' (Kd.R_lt (by (with_reducible repeat (first | apply Kd.R_alloc | apply Kd.R_drewN | apply Kd.R_drew)); exact (Kd.R_mono (Kd.R_far (p := ⟨gb293, 1, none⟩) (Kd.R_far (p := ⟨gb293, 0, none⟩) (Kd.R_types HO289.out BK293.out (by decide)) (fun _ hk => hk.2) (.slice Ao297 t287.length co297)) (fun _ hk => hk.2) (.int .i64 t290)) (fun _ h_ => h_.1)))) k_ hk_), (Kd.freshB (g := gb273) (o := .cells #[.int .i64 a0_0, .int .u64 a0_1, .int .u64 a0_2, .int .u64 a0_3, .int .u64 a0_4] 25 (0, 0)) (by (with_reducible repeat (first | apply bN_ | apply bD_ | apply bA_)); refine blk_far ?_ NB273_293.out _; (with_reducible repeat (first | apply bN_ | apply bD_ | apply bA_)); refine blk_far ?_ NB273_293.out _; (with_reducible repeat (first | apply bN_ | apply bD_ | apply bA_)); exact BK273.out) k_ hk_), (Kd.freshB (g := gb285) (o := .cells #[.int .i64 t275, .int .u64 t276, .int .u64 t277, .int .u64 t278, .int .u64 t279] 29 (0, 0)) (by (with_reducible repeat (first | apply bN_ | apply bD_ | apply bA_)); refine blk_far ?_ NB285_293.out _; (with_reducible repeat (first | apply bN_ | apply bD_ | apply bA_)); refine blk_far ?_ NB285_293.out _; (with_reducible repeat (first | apply bN_ | apply bD_ | apply bA_)); exact BK285.out) k_ hk_), (Kd.freshB (g := gb286) (o := .cells #[.int .i64 t280, .int .u64 t281, .int .u64 t282, .int .u64 t283, .int .u64 t284] 29 (0, 0)) (by (with_reducible repeat (first | apply bN_ | apply bD_ | apply bA_)); refine blk_far ?_ NB286_293.out _; (with_reducible repeat (first | apply bN_ | apply bD_ | apply bA_)); refine blk_far ?_ NB286_293.out _; (with_reducible repeat (first | apply bN_ | apply bD_ | apply bA_)); exact BK286.out) k_ hk_), (Kd.freshB (g := gb293) (o := .cells #[.slice Ao297 t287.length co297, .int .i64 t290] 37 (0, 0)) (by (with_reducible repeat (first | apply bN_ | apply bD_ | apply bA_)); refine blk_put (cs := #[.slice Ao297 t287.length co297, .int .i64 0]) ?_ 1 _ rfl; (with_reducible repeat (first | apply bN_ | apply bD_ | apply bA_)); refine blk_put (cs := #[.slice none 0 0, .int .i64 0]) ?_ 0 _ rfl; (with_reducible repeat (first | apply bN_ | apply bD_ | apply bA_)); exact BK293.out) k_ hk_)⟩)) (below_size (by repeat (first | (with_reducible first | exact HB.out | apply ba_ | apply bn_ | apply bd_ | refine below_set ?_ GE273.out | refine below_set ?_ GE285.out | refine below_set ?_ GE286.out | refine below_set ?_ GE293.out) | exact HB.out)))); replace HO289 := Aside0.mk (Kd.R_below (by (with_reducible repeat (first | apply Kd.R_alloc | apply Kd.R_drewN | apply Kd.R_drew)); exact (Kd.R_mono (Kd.R_far (p := ⟨gb293, 1, none⟩) (Kd.R_far (p := ⟨gb293, 0, none⟩) (Kd.R_types HO289.out BK293.out (by decide)) (fun _ hk => hk.2) (.slice Ao297 t287.length co297)) (fun _ hk => hk.2) (.int .i64 t290)) (fun _ h_ => h_.1))) hb); replace BK273 := Aside0.mk (blk_below (g := gb273) (o := .cells #[.int .i64 a0_0, .int .u64 a0_1, .int .u64 a0_2, .int .u64 a0_3, .int .u64 a0_4] 25 (0, 0)) (by (with_reducible repeat (first | apply bN_ | apply bD_ | apply bA_)); refine blk_far ?_ NB273_293.out _; (with_reducible repeat (first | apply bN_ | apply bD_ | apply bA_)); refine blk_far ?_ NB273_293.out _; (with_reducible repeat (first | apply bN_ | apply bD_ | apply bA_)); exact BK273.out) hb); replace BK285 := Aside0.mk (blk_below (g := gb285) (o := .cells #[.int .i64 t275, .int .u64 t276, .int .u64 t277, .int .u64 t278, .int .u64 t279] 29 (0, 0)) (by (with_reducible repeat (first | apply bN_ | apply bD_ | apply bA_)); refine blk_far ?_ NB285_293.out _; (with_reducible repeat (first | apply bN_ | apply bD_ | apply bA_)); refine blk_far ?_ NB285_293.out _; (with_reducible repeat (first | apply bN_ | apply bD_ | apply bA_)); exact BK285.out) hb); replace BK286 := Aside0.mk (blk_below (g := gb286) (o := .cells #[.int .i64 t280, .int .u64 t281, .int .u64 t282, .int .u64 t283, .int .u64 t284] 29 (0, 0)) (by (with_reducible repeat (first | apply bN_ | apply bD_ | apply bA_)); refine blk_far ?_ NB286_293.out _; (with_reducible repeat (first | apply bN_ | apply bD_ | apply bA_)); refine blk_far ?_ NB286_293.out _; (with_reducible repeat (first | apply bN_ | apply bD_ | apply bA_)); exact BK286.out) hb); replace BK293 := Aside0.mk (blk_below (g := gb293) (o := .cells #[.slice Ao297 t287.length co297, .int .i64 t290] 37 (0, 0)) (by (with_reducible repeat (first | apply bN_ | apply bD_ | apply bA_)); refine blk_put (cs := #[.slice Ao297 t287.length co297, .int .i64 0]) ?_ 1 _ rfl; (with_reducible repeat (first | apply bN_ | apply bD_ | apply bA_)); refine blk_put (cs := #[.slice none 0 0, .int .i64 0]) ?_ 0 _ rfl; (with_reducible repeat (first | apply bN_ | apply bD_ | apply bA_)); exact BK293.out) hb); replace HB := Aside0.mk (below_step (by repeat (first | (with_reducible first | exact HB.out | apply ba_ | apply bn_ | apply bd_ | refine below_set ?_ GE273.out | refine below_set ?_ GE285.out | refine below_set ?_ GE286.out | refine below_set ?_ GE293.out) | exact HB.out)) hb); (try clear hb); (try clear hb2); (try clear hk); (try clear hi); (try clear ho0); (try clear ho1); obtain ⟨Ao304, co304, eo304⟩ := Kd.V_slice HO297.out; subst eo304; obtain ⟨Ao305, co305, eo305⟩ := Kd.V_slice HO300.out; subst eo305) | ((with_reducible refine gate_callee (f := 47) rfl ?_); refine goesL_ (some 26) rfl rfl Tryd.func47 (by kernel_rfl) rfl #[.agg #[.int .i64 t294, .slice Ao304 t295.length co304, .slice Ao305 t298.length co305]] rfl ar_ ?_; (with_reducible refine (honeycombref05_Check.calls k t294 _ _ t295 _ _ t298 t301 _ ?side1 ?side2 ?side3 ?side4 A9.out).mono ?_); (case side1 => repeat (first | exact (Kd.V_reads' HO297.out).2.2 | (with_reducible refine Kd.C_alloc ?_ _) | (with_reducible refine Kd.C_drewN ?_ _) | (with_reducible refine Kd.C_drew ?_))); (case side2 => exact (Kd.V_reads' HO297.out).2.1); (case side3 => repeat (first | exact (Kd.V_reads' HO300.out).2.2 | (with_reducible refine Kd.C_alloc ?_ _) | (with_reducible refine Kd.C_drewN ?_ _) | (with_reducible refine Kd.C_drew ?_))); (case side4 => exact (Kd.V_reads' HO300.out).2.1); rintro e w306 ⟨rfl, hb⟩; refine ⟨_, rfl, ?_⟩; replace HO289 := Aside0.mk (Kd.R_below (kr_ HO289.out) hb); replace HO297 := Aside0.mk (Kd.V_below (by (with_reducible repeat (first | apply Kd.V_alloc | apply Kd.V_drewN | apply Kd.V_drew)); exact HO297.out) hb); replace HO300 := Aside0.mk (Kd.V_below (by (with_reducible repeat (first | apply Kd.V_alloc | apply Kd.V_drewN | apply Kd.V_drew)); exact HO300.out) hb); replace BK273 := bb_ BK273.out hb; replace BK285 := bb_ BK285.out hb; replace BK286 := bb_ BK286.out hb; replace BK293 := bb_ BK293.out hb; replace HB := Aside0.mk (below_step (by repeat (first | (with_reducible first | exact HB.out | apply ba_ | apply bn_ | apply bd_ | refine below_set ?_ GE273.out | refine below_set ?_ GE285.out | refine below_set ?_ GE286.out | refine below_set ?_ GE293.out) | exact HB.out)) hb); (try clear hb); (try clear hb2); (try clear hk); (try clear hi); have CA236 := fun W gEt_ => XCodeOf.calls t292 t302 W gEt_ A236.out; try simp only [errW_none, errW_some] at CA236) | (go_at_call 48; (with_reducible refine (CA236 _ ?side1).mono ?_); (case side1 => exact HGEt.out.below (by repeat (first | (with_reducible first | exact HB.out | apply ba_ | apply bn_ | apply bd_ | refine below_set ?_ GE273.out | refine below_set ?_ GE285.out | refine below_set ?_ GE286.out | refine below_set ?_ GE293.out) | exact HB.out))); rintro e w307 ⟨rfl, hb⟩; replace HO289 := Aside0.mk (Kd.R_below (kr_ HO289.out) hb); replace HO297 := Aside0.mk (Kd.V_below (by (with_reducible repeat (first | apply Kd.V_alloc | apply Kd.V_drewN | apply Kd.V_drew)); exact HO297.out) hb); replace HO300 := Aside0.mk (Kd.V_below (by (with_reducible repeat (first | apply Kd.V_alloc | apply Kd.V_drewN | apply Kd.V_drew)); exact HO300.out) hb); replace BK273 := bb_ BK273.out hb; replace BK285 := bb_ BK285.out hb; replace BK286 := bb_ BK286.out hb; replace BK293 := bb_ BK293.out hb; replace HB := Aside0.mk (below_step (by repeat (first | (with_reducible first | exact HB.out | apply ba_ | apply bn_ | apply bd_ | refine below_set ?_ GE273.out | refine below_set ?_ GE285.out | refine below_set ?_ GE286.out | refine below_set ?_ GE293.out) | exact HB.out)) hb); (try clear hb); (try clear hb2); (try clear hk); (try clear hi); obtain ⟨hcz308_0, hcz308_1, hcz308_2, hcz308_3, hcz308_4⟩ := cz5_ BK285.out; obtain ⟨hfz308_0, hfz308_1, hfz308_2, hfz308_3, hfz308_4⟩ := fz5_ BK285.out) | (go_at_call 18; (with_reducible refine (iso_Keeps.calls k t275 t276 t277 t278 t279 a1 t303 _ ?side1 A273.out).mono ?_); (case side1 => exact HGSix.out.below (by repeat (first | (with_reducible first | exact HB.out | apply ba_ | apply bn_ | apply bd_ | refine below_set ?_ GE273.out | refine below_set ?_ GE285.out | refine below_set ?_ GE286.out | refine below_set ?_ GE293.out) | exact HB.out))); rintro e w309 ⟨rfl, hb⟩; replace HO289 := Aside0.mk (Kd.R_below (kr_ HO289.out) hb); replace HO297 := Aside0.mk (Kd.V_below (by (with_reducible repeat (first | apply Kd.V_alloc | apply Kd.V_drewN | apply Kd.V_drew)); exact HO297.out) hb); replace HO300 := Aside0.mk (Kd.V_below (by (with_reducible repeat (first | apply Kd.V_alloc | apply Kd.V_drewN | apply Kd.V_drew)); exact HO300.out) hb); replace BK273 := bb_ BK273.out hb; replace BK285 := bb_ BK285.out hb; replace BK286 := bb_ BK286.out hb; replace BK293 := bb_ BK293.out hb; replace HB := Aside0.mk (below_step (by repeat (first | (with_reducible first | exact HB.out | apply ba_ | apply bn_ | apply bd_ | refine below_set ?_ GE273.out | refine below_set ?_ GE285.out | refine below_set ?_ GE286.out | refine below_set ?_ GE293.out) | exact HB.out)) hb); (try clear hb); (try clear hb2); (try clear hk); (try clear hi)))
  go_ret
  exact ⟨er_, by repeat (first | (with_reducible first | exact HB.out | apply ba_ | apply bn_ | apply bd_ | refine below_set ?_ GE273.out | refine below_set ?_ GE285.out | refine below_set ?_ GE286.out | refine below_set ?_ GE293.out) | exact HB.out)⟩
 rw [if_pos c10] at H
 have c10b0 : (t301 == 0) = true := beq_iff_eq.mpr c10
 have c10b1 : (t301 != 0) = false := bne_eq_false_iff_eq.mpr c10
 clear c10
 by_cases c11 : a1 ≥ 0
 rotate_left
 ·
  rw [if_neg c11] at H
  have c11b0 : decide (0 ≤ a1) = false := decide_eq_false c11
  clear c11
  rcases t292 with _ | q316
  rotate_left
  ·
   have H1 : (some false) = some r := by rw [if_neg (show ¬ (some q316).isNone = true by simp)] at H; exact H
   clear H
   have H := H1
   clear H1
   try simp only [errW_none, errW_some]
   exact absurd ((Option.some.inj H).trans Hr_.out) (by decide)
  have H1 : ((iso_Keeps.f k t280 t281 t282 t283 t284 a1).bind fun t317 => (some (t317 == false))) = some r := by rw [if_pos (show (none : Option Int).isNone = true by rfl)] at H; exact H
  clear H
  have H := H1
  clear H1
  try simp only [errW_none, errW_some]
  replace H := Option.bind_eq_some_iff.mp H
  obtain ⟨t317, A1660, H⟩ := H
  replace H : (some (t317 == false)) = some r := H
  have A166 := Aside0.mk A1660
  clear A1660
  obtain rfl := Option.some.inj H
  try go_wp2_with (first | ((with_reducible refine gate_callee (f := 17) rfl ?_); refine goesL_ (some 20) rfl rfl Tryd.func17 (by kernel_rfl) rfl #[.agg #[.int .i64 t275, .int .u64 t276, .int .u64 t277, .int .u64 t278, .int .u64 t279]] rfl ar_ ?_; (with_reducible refine (iso_Check.calls k t275 t276 t277 t278 t279 t287 t290 t291 none _ ?side1 A7.out).mono ?_); (case side1 => exact HGSix.out.below (hg3_ GE273.out GE285.out GE286.out)); rintro e w188 ⟨v288, rfl, ho0, hb⟩; refine ⟨_, rfl, ?_⟩; have HO289 := Aside0.mk (Kd.R_lower ho0 (below_size (hg3_ GE273.out GE285.out GE286.out))); replace BK273 := Aside0.mk (blk_below (g := gb273) (o := .cells #[.int .i64 a0_0, .int .u64 a0_1, .int .u64 a0_2, .int .u64 a0_3, .int .u64 a0_4] 25 (0, 0)) (by (with_reducible repeat (first | apply bN_ | apply bD_ | apply bA_)); refine blk_far ?_ NB273_286.out _; (with_reducible repeat (first | apply bN_ | apply bD_ | apply bA_)); refine blk_far ?_ NB273_286.out _; (with_reducible repeat (first | apply bN_ | apply bD_ | apply bA_)); refine blk_far ?_ NB273_286.out _; (with_reducible repeat (first | apply bN_ | apply bD_ | apply bA_)); refine blk_far ?_ NB273_286.out _; (with_reducible repeat (first | apply bN_ | apply bD_ | apply bA_)); refine blk_far ?_ NB273_286.out _; (with_reducible repeat (first | apply bN_ | apply bD_ | apply bA_)); refine blk_far ?_ NB273_285.out _; (with_reducible repeat (first | apply bN_ | apply bD_ | apply bA_)); refine blk_far ?_ NB273_285.out _; (with_reducible repeat (first | apply bN_ | apply bD_ | apply bA_)); refine blk_far ?_ NB273_285.out _; (with_reducible repeat (first | apply bN_ | apply bD_ | apply bA_)); refine blk_far ?_ NB273_285.out _; (with_reducible repeat (first | apply bN_ | apply bD_ | apply bA_)); refine blk_far ?_ NB273_285.out _; (with_reducible repeat (first | apply bN_ | apply bD_ | apply bA_)); exact BK273.out) hb); replace BK285 := Aside0.mk (blk_below (g := gb285) (o := .cells #[.int .i64 t275, .int .u64 t276, .int .u64 t277, .int .u64 t278, .int .u64 t279] 29 (0, 0)) (by (with_reducible repeat (first | apply bN_ | apply bD_ | apply bA_)); refine blk_far ?_ NB285_286.out _; (with_reducible repeat (first | apply bN_ | apply bD_ | apply bA_)); refine blk_far ?_ NB285_286.out _; (with_reducible repeat (first | apply bN_ | apply bD_ | apply bA_)); refine blk_far ?_ NB285_286.out _; (with_reducible repeat (first | apply bN_ | apply bD_ | apply bA_)); refine blk_far ?_ NB285_286.out _; (with_reducible repeat (first | apply bN_ | apply bD_ | apply bA_)); refine blk_far ?_ NB285_286.out _; (with_reducible repeat (first | apply bN_ | apply bD_ | apply bA_)); refine blk_put (cs := #[.int .i64 t275, .int .u64 t276, .int .u64 t277, .int .u64 t278, .int .u64 0]) ?_ 4 _ rfl; (with_reducible repeat (first | apply bN_ | apply bD_ | apply bA_)); refine blk_put (cs := #[.int .i64 t275, .int .u64 t276, .int .u64 t277, .int .u64 0, .int .u64 0]) ?_ 3 _ rfl; (with_reducible repeat (first | apply bN_ | apply bD_ | apply bA_)); refine blk_put (cs := #[.int .i64 t275, .int .u64 t276, .int .u64 0, .int .u64 0, .int .u64 0]) ?_ 2 _ rfl; (with_reducible repeat (first | apply bN_ | apply bD_ | apply bA_)); refine blk_put (cs := #[.int .i64 t275, .int .u64 0, .int .u64 0, .int .u64 0, .int .u64 0]) ?_ 1 _ rfl; (with_reducible repeat (first | apply bN_ | apply bD_ | apply bA_)); refine blk_put (cs := #[.int .i64 0, .int .u64 0, .int .u64 0, .int .u64 0, .int .u64 0]) ?_ 0 _ rfl; (with_reducible repeat (first | apply bN_ | apply bD_ | apply bA_)); exact BK285.out) hb); replace BK286 := Aside0.mk (blk_below (g := gb286) (o := .cells #[.int .i64 t280, .int .u64 t281, .int .u64 t282, .int .u64 t283, .int .u64 t284] 29 (0, 0)) (by (with_reducible repeat (first | apply bN_ | apply bD_ | apply bA_)); refine blk_put (cs := #[.int .i64 t280, .int .u64 t281, .int .u64 t282, .int .u64 t283, .int .u64 0]) ?_ 4 _ rfl; (with_reducible repeat (first | apply bN_ | apply bD_ | apply bA_)); refine blk_put (cs := #[.int .i64 t280, .int .u64 t281, .int .u64 t282, .int .u64 0, .int .u64 0]) ?_ 3 _ rfl; (with_reducible repeat (first | apply bN_ | apply bD_ | apply bA_)); refine blk_put (cs := #[.int .i64 t280, .int .u64 t281, .int .u64 0, .int .u64 0, .int .u64 0]) ?_ 2 _ rfl; (with_reducible repeat (first | apply bN_ | apply bD_ | apply bA_)); refine blk_put (cs := #[.int .i64 t280, .int .u64 0, .int .u64 0, .int .u64 0, .int .u64 0]) ?_ 1 _ rfl; (with_reducible repeat (first | apply bN_ | apply bD_ | apply bA_)); refine blk_put (cs := #[.int .i64 0, .int .u64 0, .int .u64 0, .int .u64 0, .int .u64 0]) ?_ 0 _ rfl; (with_reducible repeat (first | apply bN_ | apply bD_ | apply bA_)); refine blk_far ?_ NB286_285.out _; (with_reducible repeat (first | apply bN_ | apply bD_ | apply bA_)); refine blk_far ?_ NB286_285.out _; (with_reducible repeat (first | apply bN_ | apply bD_ | apply bA_)); refine blk_far ?_ NB286_285.out _; (with_reducible repeat (first | apply bN_ | apply bD_ | apply bA_)); refine blk_far ?_ NB286_285.out _; (with_reducible repeat (first | apply bN_ | apply bD_ | apply bA_)); refine blk_far ?_ NB286_285.out _; (with_reducible repeat (first | apply bN_ | apply bD_ | apply bA_)); exact BK286.out) hb); replace HB := Aside0.mk (below_step (hg3_ GE273.out GE285.out GE286.out) hb); (try clear hb); (try clear hb2); (try clear hk); (try clear hi); (try clear ho0); (try simp only [errW_none, errW_some])) | ((with_reducible refine gate_dst (N := 7) rfl ?_); refine bx_ 7 #[.slice none 0 0, .int .i64 0] 37 ?_; intro gb293 hg w189 hbox hb; have BK293 := Aside0.mk (hbox); have GW293 := Aside0.mk ((by rw [hg]; exact (below_size (hg3_ GE273.out GE285.out GE286.out)) : w.heap.size ≤ gb293)); have GE293 := GW293; have NB273_293 := Aside0.mk ((by rw [hg]; exact ne1_ BK273.out : gb273 ≠ gb293)); have NB293_273 := Aside0.mk ((by rw [hg]; exact ne2_ BK273.out : gb293 ≠ gb273)); have NB285_293 := Aside0.mk ((by rw [hg]; exact ne1_ BK285.out : gb285 ≠ gb293)); have NB293_285 := Aside0.mk ((by rw [hg]; exact ne2_ BK285.out : gb293 ≠ gb285)); have NB286_293 := Aside0.mk ((by rw [hg]; exact ne1_ BK286.out : gb286 ≠ gb293)); have NB293_286 := Aside0.mk ((by rw [hg]; exact ne2_ BK286.out : gb293 ≠ gb286)); replace HO289 := Aside0.mk (Kd.R_below (kr_ HO289.out) hb); replace BK273 := bb_ BK273.out hb; replace BK285 := bb_ BK285.out hb; replace BK286 := bb_ BK286.out hb; replace HB := Aside0.mk (below_step (hg3_ GE273.out GE285.out GE286.out) hb); clear hb hbox hg; obtain ⟨Ao190, co190, eo190⟩ := Kd.R_slice HO289.out; subst eo190; have hnb191 := NB293_273.out; have hnc191 := NB273_293.out; have hnb192 := NB293_285.out; have hnc192 := NB285_293.out; have hnb193 := NB293_286.out; have hnc193 := NB286_293.out; obtain ⟨hcz194_0, hcz194_1⟩ := cz2_ BK293.out; obtain ⟨hfz194_0, hfz194_1⟩ := fz2_ BK293.out; obtain ⟨hcz195_0, hcz195_1, hcz195_2, hcz195_3, hcz195_4⟩ := cz5_ BK285.out; obtain ⟨hfz195_0, hfz195_1, hfz195_2, hfz195_3, hfz195_4⟩ := fz5_ BK285.out) | ((with_reducible refine gate_callee (f := 27) rfl ?_); refine goesL_ (some 25) rfl rfl Tryd.func27 (by kernel_rfl) rfl #[.agg #[.int .i64 t275, .int .u64 t276, .int .u64 t277, .int .u64 t278, .int .u64 t279]] rfl ar_ ?_; (with_reducible refine (XTold5.calls t275 t276 t277 t278 t279 t294 t295 t298 _ A8.out).mono ?_); rintro e w196 ⟨v296, v299, rfl, ho0, ho1, hb⟩; refine ⟨_, rfl, ?_⟩; have HO297 := Aside0.mk (Kd.V_lower (Kd.V_mono (ok' := fun k_ => some k_ ≠ (.slice Ao190 t287.length co190 : Value).ownBlock ∧ k_ ≠ gb273 ∧ k_ ≠ gb285 ∧ k_ ≠ gb286 ∧ k_ ≠ gb293) ho0 (fun k_ hk_ => ⟨(Kd.fresh' (Kd.R_lt (by (with_reducible repeat (first | apply Kd.R_alloc | apply Kd.R_drewN | apply Kd.R_drew)); exact (Kd.R_mono (Kd.R_far (p := ⟨gb293, 1, none⟩) (Kd.R_far (p := ⟨gb293, 0, none⟩) (Kd.R_types HO289.out BK293.out (by decide)) (fun _ hk => hk.2) (.slice Ao190 t287.length co190)) (fun _ hk => hk.2) (.int .i64 t290)) (fun _ h_ => h_.1)))) k_ hk_), (Kd.freshB (g := gb273) (o := .cells #[.int .i64 a0_0, .int .u64 a0_1, .int .u64 a0_2, .int .u64 a0_3, .int .u64 a0_4] 25 (0, 0)) (by (with_reducible repeat (first | apply bN_ | apply bD_ | apply bA_)); refine blk_far ?_ NB273_293.out _; (with_reducible repeat (first | apply bN_ | apply bD_ | apply bA_)); refine blk_far ?_ NB273_293.out _; (with_reducible repeat (first | apply bN_ | apply bD_ | apply bA_)); exact BK273.out) k_ hk_), (Kd.freshB (g := gb285) (o := .cells #[.int .i64 t275, .int .u64 t276, .int .u64 t277, .int .u64 t278, .int .u64 t279] 29 (0, 0)) (by (with_reducible repeat (first | apply bN_ | apply bD_ | apply bA_)); refine blk_far ?_ NB285_293.out _; (with_reducible repeat (first | apply bN_ | apply bD_ | apply bA_)); refine blk_far ?_ NB285_293.out _; (with_reducible repeat (first | apply bN_ | apply bD_ | apply bA_)); exact BK285.out) k_ hk_), (Kd.freshB (g := gb286) (o := .cells #[.int .i64 t280, .int .u64 t281, .int .u64 t282, .int .u64 t283, .int .u64 t284] 29 (0, 0)) (by (with_reducible repeat (first | apply bN_ | apply bD_ | apply bA_)); refine blk_far ?_ NB286_293.out _; (with_reducible repeat (first | apply bN_ | apply bD_ | apply bA_)); refine blk_far ?_ NB286_293.out _; (with_reducible repeat (first | apply bN_ | apply bD_ | apply bA_)); exact BK286.out) k_ hk_), (Kd.freshB (g := gb293) (o := .cells #[.slice Ao190 t287.length co190, .int .i64 t290] 37 (0, 0)) (by (with_reducible repeat (first | apply bN_ | apply bD_ | apply bA_)); refine blk_put (cs := #[.slice Ao190 t287.length co190, .int .i64 0]) ?_ 1 _ rfl; (with_reducible repeat (first | apply bN_ | apply bD_ | apply bA_)); refine blk_put (cs := #[.slice none 0 0, .int .i64 0]) ?_ 0 _ rfl; (with_reducible repeat (first | apply bN_ | apply bD_ | apply bA_)); exact BK293.out) k_ hk_)⟩)) (below_size (by repeat (first | (with_reducible first | exact HB.out | apply ba_ | apply bn_ | apply bd_ | refine below_set ?_ GE273.out | refine below_set ?_ GE285.out | refine below_set ?_ GE286.out | refine below_set ?_ GE293.out) | exact HB.out)))); have HO300 := Aside0.mk (Kd.V_lower (Kd.V_mono (ok' := fun k_ => some k_ ≠ (.slice Ao190 t287.length co190 : Value).ownBlock ∧ k_ ≠ gb273 ∧ k_ ≠ gb285 ∧ k_ ≠ gb286 ∧ k_ ≠ gb293) ho1 (fun k_ hk_ => ⟨(Kd.fresh' (Kd.R_lt (by (with_reducible repeat (first | apply Kd.R_alloc | apply Kd.R_drewN | apply Kd.R_drew)); exact (Kd.R_mono (Kd.R_far (p := ⟨gb293, 1, none⟩) (Kd.R_far (p := ⟨gb293, 0, none⟩) (Kd.R_types HO289.out BK293.out (by decide)) (fun _ hk => hk.2) (.slice Ao190 t287.length co190)) (fun _ hk => hk.2) (.int .i64 t290)) (fun _ h_ => h_.1)))) k_ hk_), (Kd.freshB (g := gb273) (o := .cells #[.int .i64 a0_0, .int .u64 a0_1, .int .u64 a0_2, .int .u64 a0_3, .int .u64 a0_4] 25 (0, 0)) (by (with_reducible repeat (first | apply bN_ | apply bD_ | apply bA_)); refine blk_far ?_ NB273_293.out _; (with_reducible repeat (first | apply bN_ | apply bD_ | apply bA_)); refine blk_far ?_ NB273_293.out _; (with_reducible repeat (first | apply bN_ | apply bD_ | apply bA_)); exact BK273.out) k_ hk_), (Kd.freshB (g := gb285) (o := .cells #[.int .i64 t275, .int .u64 t276, .int .u64 t277, .int .u64 t278, .int .u64 t279] 29 (0, 0)) (by (with_reducible repeat (first | apply bN_ | apply bD_ | apply bA_)); refine blk_far ?_ NB285_293.out _; (with_reducible repeat (first | apply bN_ | apply bD_ | apply bA_)); refine blk_far ?_ NB285_293.out _; (with_reducible repeat (first | apply bN_ | apply bD_ | apply bA_)); exact BK285.out) k_ hk_), (Kd.freshB (g := gb286) (o := .cells #[.int .i64 t280, .int .u64 t281, .int .u64 t282, .int .u64 t283, .int .u64 t284] 29 (0, 0)) (by (with_reducible repeat (first | apply bN_ | apply bD_ | apply bA_)); refine blk_far ?_ NB286_293.out _; (with_reducible repeat (first | apply bN_ | apply bD_ | apply bA_)); refine blk_far ?_ NB286_293.out _; (with_reducible repeat (first | apply bN_ | apply bD_ | apply bA_)); exact BK286.out) k_ hk_), (Kd.freshB (g := gb293) (o := .cells #[.slice Ao190 t287.length co190, .int .i64 t290] 37 (0, 0)) (by (with_reducible repeat (first | apply bN_ | apply bD_ | apply bA_)); refine blk_put (cs := #[.slice Ao190 t287.length co190, .int .i64 0]) ?_ 1 _ rfl; (with_reducible repeat (first | apply bN_ | apply bD_ | apply bA_)); refine blk_put (cs := #[.slice none 0 0, .int .i64 0]) ?_ 0 _ rfl; (with_reducible repeat (first | apply bN_ | apply bD_ | apply bA_)); exact BK293.out) k_ hk_)⟩)) (below_size (by repeat (first | (with_reducible first | exact HB.out | apply ba_ | apply bn_ | apply bd_ | refine below_set ?_ GE273.out | refine below_set ?_ GE285.out | refine below_set ?_ GE286.out | refine below_set ?_ GE293.out) | exact HB.out)))); replace HO289 := Aside0.mk (Kd.R_below (by (with_reducible repeat (first | apply Kd.R_alloc | apply Kd.R_drewN | apply Kd.R_drew)); exact (Kd.R_mono (Kd.R_far (p := ⟨gb293, 1, none⟩) (Kd.R_far (p := ⟨gb293, 0, none⟩) (Kd.R_types HO289.out BK293.out (by decide)) (fun _ hk => hk.2) (.slice Ao190 t287.length co190)) (fun _ hk => hk.2) (.int .i64 t290)) (fun _ h_ => h_.1))) hb); replace BK273 := Aside0.mk (blk_below (g := gb273) (o := .cells #[.int .i64 a0_0, .int .u64 a0_1, .int .u64 a0_2, .int .u64 a0_3, .int .u64 a0_4] 25 (0, 0)) (by (with_reducible repeat (first | apply bN_ | apply bD_ | apply bA_)); refine blk_far ?_ NB273_293.out _; (with_reducible repeat (first | apply bN_ | apply bD_ | apply bA_)); refine blk_far ?_ NB273_293.out _; (with_reducible repeat (first | apply bN_ | apply bD_ | apply bA_)); exact BK273.out) hb); replace BK285 := Aside0.mk (blk_below (g := gb285) (o := .cells #[.int .i64 t275, .int .u64 t276, .int .u64 t277, .int .u64 t278, .int .u64 t279] 29 (0, 0)) (by (with_reducible repeat (first | apply bN_ | apply bD_ | apply bA_)); refine blk_far ?_ NB285_293.out _; (with_reducible repeat (first | apply bN_ | apply bD_ | apply bA_)); refine blk_far ?_ NB285_293.out _; (with_reducible repeat (first | apply bN_ | apply bD_ | apply bA_)); exact BK285.out) hb); replace BK286 := Aside0.mk (blk_below (g := gb286) (o := .cells #[.int .i64 t280, .int .u64 t281, .int .u64 t282, .int .u64 t283, .int .u64 t284] 29 (0, 0)) (by (with_reducible repeat (first | apply bN_ | apply bD_ | apply bA_)); refine blk_far ?_ NB286_293.out _; (with_reducible repeat (first | apply bN_ | apply bD_ | apply bA_)); refine blk_far ?_ NB286_293.out _; (with_reducible repeat (first | apply bN_ | apply bD_ | apply bA_)); exact BK286.out) hb); replace BK293 := Aside0.mk (blk_below (g := gb293) (o := .cells #[.slice Ao190 t287.length co190, .int .i64 t290] 37 (0, 0)) (by (with_reducible repeat (first | apply bN_ | apply bD_ | apply bA_)); refine blk_put (cs := #[.slice Ao190 t287.length co190, .int .i64 0]) ?_ 1 _ rfl; (with_reducible repeat (first | apply bN_ | apply bD_ | apply bA_)); refine blk_put (cs := #[.slice none 0 0, .int .i64 0]) ?_ 0 _ rfl; (with_reducible repeat (first | apply bN_ | apply bD_ | apply bA_)); exact BK293.out) hb); replace HB := Aside0.mk (below_step (by repeat (first | (with_reducible first | exact HB.out | apply ba_ | apply bn_ | apply bd_ | refine below_set ?_ GE273.out | refine below_set ?_ GE285.out | refine below_set ?_ GE286.out | refine below_set ?_ GE293.out) | exact HB.out)) hb); (try clear hb); (try clear hb2); (try clear hk); (try clear hi); (try clear ho0); (try clear ho1); obtain ⟨Ao197, co197, eo197⟩ := Kd.V_slice HO297.out; subst eo197; obtain ⟨Ao198, co198, eo198⟩ := Kd.V_slice HO300.out; subst eo198) | ((with_reducible refine gate_callee (f := 47) rfl ?_); refine goesL_ (some 26) rfl rfl Tryd.func47 (by kernel_rfl) rfl #[.agg #[.int .i64 t294, .slice Ao197 t295.length co197, .slice Ao198 t298.length co198]] rfl ar_ ?_; (with_reducible refine (honeycombref05_Check.calls k t294 _ _ t295 _ _ t298 t301 _ ?side1 ?side2 ?side3 ?side4 A9.out).mono ?_); (case side1 => repeat (first | exact (Kd.V_reads' HO297.out).2.2 | (with_reducible refine Kd.C_alloc ?_ _) | (with_reducible refine Kd.C_drewN ?_ _) | (with_reducible refine Kd.C_drew ?_))); (case side2 => exact (Kd.V_reads' HO297.out).2.1); (case side3 => repeat (first | exact (Kd.V_reads' HO300.out).2.2 | (with_reducible refine Kd.C_alloc ?_ _) | (with_reducible refine Kd.C_drewN ?_ _) | (with_reducible refine Kd.C_drew ?_))); (case side4 => exact (Kd.V_reads' HO300.out).2.1); rintro e w199 ⟨rfl, hb⟩; refine ⟨_, rfl, ?_⟩; replace HO289 := Aside0.mk (Kd.R_below (kr_ HO289.out) hb); replace HO297 := Aside0.mk (Kd.V_below (by (with_reducible repeat (first | apply Kd.V_alloc | apply Kd.V_drewN | apply Kd.V_drew)); exact HO297.out) hb); replace HO300 := Aside0.mk (Kd.V_below (by (with_reducible repeat (first | apply Kd.V_alloc | apply Kd.V_drewN | apply Kd.V_drew)); exact HO300.out) hb); replace BK273 := bb_ BK273.out hb; replace BK285 := bb_ BK285.out hb; replace BK286 := bb_ BK286.out hb; replace BK293 := bb_ BK293.out hb; replace HB := Aside0.mk (below_step (by repeat (first | (with_reducible first | exact HB.out | apply ba_ | apply bn_ | apply bd_ | refine below_set ?_ GE273.out | refine below_set ?_ GE285.out | refine below_set ?_ GE286.out | refine below_set ?_ GE293.out) | exact HB.out)) hb); (try clear hb); (try clear hb2); (try clear hk); (try clear hi); have hnb200 := NB286_273.out; have hnc200 := NB273_286.out; obtain ⟨hcz201_0, hcz201_1, hcz201_2, hcz201_3, hcz201_4⟩ := cz5_ BK286.out; obtain ⟨hfz201_0, hfz201_1, hfz201_2, hfz201_3, hfz201_4⟩ := fz5_ BK286.out) | (go_at_call 18; (with_reducible refine (iso_Keeps.calls k t280 t281 t282 t283 t284 a1 t317 _ ?side1 A166.out).mono ?_); (case side1 => exact HGSix.out.below (by repeat (first | (with_reducible first | exact HB.out | apply ba_ | apply bn_ | apply bd_ | refine below_set ?_ GE273.out | refine below_set ?_ GE285.out | refine below_set ?_ GE286.out | refine below_set ?_ GE293.out) | exact HB.out))); rintro e w202 ⟨rfl, hb⟩; replace HO289 := Aside0.mk (Kd.R_below (kr_ HO289.out) hb); replace HO297 := Aside0.mk (Kd.V_below (by (with_reducible repeat (first | apply Kd.V_alloc | apply Kd.V_drewN | apply Kd.V_drew)); exact HO297.out) hb); replace HO300 := Aside0.mk (Kd.V_below (by (with_reducible repeat (first | apply Kd.V_alloc | apply Kd.V_drewN | apply Kd.V_drew)); exact HO300.out) hb); replace BK273 := bb_ BK273.out hb; replace BK285 := bb_ BK285.out hb; replace BK286 := bb_ BK286.out hb; replace BK293 := bb_ BK293.out hb; replace HB := Aside0.mk (below_step (by repeat (first | (with_reducible first | exact HB.out | apply ba_ | apply bn_ | apply bd_ | refine below_set ?_ GE273.out | refine below_set ?_ GE285.out | refine below_set ?_ GE286.out | refine below_set ?_ GE293.out) | exact HB.out)) hb); (try clear hb); (try clear hb2); (try clear hk); (try clear hi)))
  go_ret
  exact ⟨er_, by repeat (first | (with_reducible first | exact HB.out | apply ba_ | apply bn_ | apply bd_ | refine below_set ?_ GE273.out | refine below_set ?_ GE285.out | refine below_set ?_ GE286.out | refine below_set ?_ GE293.out) | exact HB.out)⟩
 rw [if_pos c11] at H
 have c11b0 : decide (0 ≤ a1) = true := decide_eq_true c11
 clear c11
 by_cases c12 : a1 < 12
 rotate_left
 ·
  rw [if_neg c12] at H
  have c12b0 : decide (a1 < 12) = false := decide_eq_false c12
  clear c12
  rcases t292 with _ | q314
  rotate_left
  ·
   have H1 : (some false) = some r := by rw [if_neg (show ¬ (some q314).isNone = true by simp)] at H; exact H
   clear H
   have H := H1
   clear H1
   try simp only [errW_none, errW_some]
   exact absurd ((Option.some.inj H).trans Hr_.out) (by decide)
  have H1 : ((iso_Keeps.f k t280 t281 t282 t283 t284 a1).bind fun t315 => (some (t315 == false))) = some r := by rw [if_pos (show (none : Option Int).isNone = true by rfl)] at H; exact H
  clear H
  have H := H1
  clear H1
  try simp only [errW_none, errW_some]
  replace H := Option.bind_eq_some_iff.mp H
  obtain ⟨t315, A960, H⟩ := H
  replace H : (some (t315 == false)) = some r := H
  have A96 := Aside0.mk A960
  clear A960
  obtain rfl := Option.some.inj H
  try go_wp2_with (first | ((with_reducible refine gate_callee (f := 17) rfl ?_); refine goesL_ (some 20) rfl rfl Tryd.func17 (by kernel_rfl) rfl #[.agg #[.int .i64 t275, .int .u64 t276, .int .u64 t277, .int .u64 t278, .int .u64 t279]] rfl ar_ ?_; (with_reducible refine (iso_Check.calls k t275 t276 t277 t278 t279 t287 t290 t291 none _ ?side1 A7.out).mono ?_); (case side1 => exact HGSix.out.below (hg3_ GE273.out GE285.out GE286.out)); rintro e w118 ⟨v288, rfl, ho0, hb⟩; refine ⟨_, rfl, ?_⟩; have HO289 := Aside0.mk (Kd.R_lower ho0 (below_size (hg3_ GE273.out GE285.out GE286.out))); replace BK273 := Aside0.mk (blk_below (g := gb273) (o := .cells #[.int .i64 a0_0, .int .u64 a0_1, .int .u64 a0_2, .int .u64 a0_3, .int .u64 a0_4] 25 (0, 0)) (by (with_reducible repeat (first | apply bN_ | apply bD_ | apply bA_)); refine blk_far ?_ NB273_286.out _; (with_reducible repeat (first | apply bN_ | apply bD_ | apply bA_)); refine blk_far ?_ NB273_286.out _; (with_reducible repeat (first | apply bN_ | apply bD_ | apply bA_)); refine blk_far ?_ NB273_286.out _; (with_reducible repeat (first | apply bN_ | apply bD_ | apply bA_)); refine blk_far ?_ NB273_286.out _; (with_reducible repeat (first | apply bN_ | apply bD_ | apply bA_)); refine blk_far ?_ NB273_286.out _; (with_reducible repeat (first | apply bN_ | apply bD_ | apply bA_)); refine blk_far ?_ NB273_285.out _; (with_reducible repeat (first | apply bN_ | apply bD_ | apply bA_)); refine blk_far ?_ NB273_285.out _; (with_reducible repeat (first | apply bN_ | apply bD_ | apply bA_)); refine blk_far ?_ NB273_285.out _; (with_reducible repeat (first | apply bN_ | apply bD_ | apply bA_)); refine blk_far ?_ NB273_285.out _; (with_reducible repeat (first | apply bN_ | apply bD_ | apply bA_)); refine blk_far ?_ NB273_285.out _; (with_reducible repeat (first | apply bN_ | apply bD_ | apply bA_)); exact BK273.out) hb); replace BK285 := Aside0.mk (blk_below (g := gb285) (o := .cells #[.int .i64 t275, .int .u64 t276, .int .u64 t277, .int .u64 t278, .int .u64 t279] 29 (0, 0)) (by (with_reducible repeat (first | apply bN_ | apply bD_ | apply bA_)); refine blk_far ?_ NB285_286.out _; (with_reducible repeat (first | apply bN_ | apply bD_ | apply bA_)); refine blk_far ?_ NB285_286.out _; (with_reducible repeat (first | apply bN_ | apply bD_ | apply bA_)); refine blk_far ?_ NB285_286.out _; (with_reducible repeat (first | apply bN_ | apply bD_ | apply bA_)); refine blk_far ?_ NB285_286.out _; (with_reducible repeat (first | apply bN_ | apply bD_ | apply bA_)); refine blk_far ?_ NB285_286.out _; (with_reducible repeat (first | apply bN_ | apply bD_ | apply bA_)); refine blk_put (cs := #[.int .i64 t275, .int .u64 t276, .int .u64 t277, .int .u64 t278, .int .u64 0]) ?_ 4 _ rfl; (with_reducible repeat (first | apply bN_ | apply bD_ | apply bA_)); refine blk_put (cs := #[.int .i64 t275, .int .u64 t276, .int .u64 t277, .int .u64 0, .int .u64 0]) ?_ 3 _ rfl; (with_reducible repeat (first | apply bN_ | apply bD_ | apply bA_)); refine blk_put (cs := #[.int .i64 t275, .int .u64 t276, .int .u64 0, .int .u64 0, .int .u64 0]) ?_ 2 _ rfl; (with_reducible repeat (first | apply bN_ | apply bD_ | apply bA_)); refine blk_put (cs := #[.int .i64 t275, .int .u64 0, .int .u64 0, .int .u64 0, .int .u64 0]) ?_ 1 _ rfl; (with_reducible repeat (first | apply bN_ | apply bD_ | apply bA_)); refine blk_put (cs := #[.int .i64 0, .int .u64 0, .int .u64 0, .int .u64 0, .int .u64 0]) ?_ 0 _ rfl; (with_reducible repeat (first | apply bN_ | apply bD_ | apply bA_)); exact BK285.out) hb); replace BK286 := Aside0.mk (blk_below (g := gb286) (o := .cells #[.int .i64 t280, .int .u64 t281, .int .u64 t282, .int .u64 t283, .int .u64 t284] 29 (0, 0)) (by (with_reducible repeat (first | apply bN_ | apply bD_ | apply bA_)); refine blk_put (cs := #[.int .i64 t280, .int .u64 t281, .int .u64 t282, .int .u64 t283, .int .u64 0]) ?_ 4 _ rfl; (with_reducible repeat (first | apply bN_ | apply bD_ | apply bA_)); refine blk_put (cs := #[.int .i64 t280, .int .u64 t281, .int .u64 t282, .int .u64 0, .int .u64 0]) ?_ 3 _ rfl; (with_reducible repeat (first | apply bN_ | apply bD_ | apply bA_)); refine blk_put (cs := #[.int .i64 t280, .int .u64 t281, .int .u64 0, .int .u64 0, .int .u64 0]) ?_ 2 _ rfl; (with_reducible repeat (first | apply bN_ | apply bD_ | apply bA_)); refine blk_put (cs := #[.int .i64 t280, .int .u64 0, .int .u64 0, .int .u64 0, .int .u64 0]) ?_ 1 _ rfl; (with_reducible repeat (first | apply bN_ | apply bD_ | apply bA_)); refine blk_put (cs := #[.int .i64 0, .int .u64 0, .int .u64 0, .int .u64 0, .int .u64 0]) ?_ 0 _ rfl; (with_reducible repeat (first | apply bN_ | apply bD_ | apply bA_)); refine blk_far ?_ NB286_285.out _; (with_reducible repeat (first | apply bN_ | apply bD_ | apply bA_)); refine blk_far ?_ NB286_285.out _; (with_reducible repeat (first | apply bN_ | apply bD_ | apply bA_)); refine blk_far ?_ NB286_285.out _; (with_reducible repeat (first | apply bN_ | apply bD_ | apply bA_)); refine blk_far ?_ NB286_285.out _; (with_reducible repeat (first | apply bN_ | apply bD_ | apply bA_)); refine blk_far ?_ NB286_285.out _; (with_reducible repeat (first | apply bN_ | apply bD_ | apply bA_)); exact BK286.out) hb); replace HB := Aside0.mk (below_step (hg3_ GE273.out GE285.out GE286.out) hb); (try clear hb); (try clear hb2); (try clear hk); (try clear hi); (try clear ho0); (try simp only [errW_none, errW_some])) | ((with_reducible refine gate_dst (N := 7) rfl ?_); refine bx_ 7 #[.slice none 0 0, .int .i64 0] 37 ?_; intro gb293 hg w119 hbox hb; have BK293 := Aside0.mk (hbox); have GW293 := Aside0.mk ((by rw [hg]; exact (below_size (hg3_ GE273.out GE285.out GE286.out)) : w.heap.size ≤ gb293)); have GE293 := GW293; have NB273_293 := Aside0.mk ((by rw [hg]; exact ne1_ BK273.out : gb273 ≠ gb293)); have NB293_273 := Aside0.mk ((by rw [hg]; exact ne2_ BK273.out : gb293 ≠ gb273)); have NB285_293 := Aside0.mk ((by rw [hg]; exact ne1_ BK285.out : gb285 ≠ gb293)); have NB293_285 := Aside0.mk ((by rw [hg]; exact ne2_ BK285.out : gb293 ≠ gb285)); have NB286_293 := Aside0.mk ((by rw [hg]; exact ne1_ BK286.out : gb286 ≠ gb293)); have NB293_286 := Aside0.mk ((by rw [hg]; exact ne2_ BK286.out : gb293 ≠ gb286)); replace HO289 := Aside0.mk (Kd.R_below (kr_ HO289.out) hb); replace BK273 := bb_ BK273.out hb; replace BK285 := bb_ BK285.out hb; replace BK286 := bb_ BK286.out hb; replace HB := Aside0.mk (below_step (hg3_ GE273.out GE285.out GE286.out) hb); clear hb hbox hg; obtain ⟨Ao120, co120, eo120⟩ := Kd.R_slice HO289.out; subst eo120; have hnb121 := NB293_273.out; have hnc121 := NB273_293.out; have hnb122 := NB293_285.out; have hnc122 := NB285_293.out; have hnb123 := NB293_286.out; have hnc123 := NB286_293.out; obtain ⟨hcz124_0, hcz124_1⟩ := cz2_ BK293.out; obtain ⟨hfz124_0, hfz124_1⟩ := fz2_ BK293.out; obtain ⟨hcz125_0, hcz125_1, hcz125_2, hcz125_3, hcz125_4⟩ := cz5_ BK285.out; obtain ⟨hfz125_0, hfz125_1, hfz125_2, hfz125_3, hfz125_4⟩ := fz5_ BK285.out) | ((with_reducible refine gate_callee (f := 27) rfl ?_); refine goesL_ (some 25) rfl rfl Tryd.func27 (by kernel_rfl) rfl #[.agg #[.int .i64 t275, .int .u64 t276, .int .u64 t277, .int .u64 t278, .int .u64 t279]] rfl ar_ ?_; (with_reducible refine (XTold5.calls t275 t276 t277 t278 t279 t294 t295 t298 _ A8.out).mono ?_); rintro e w126 ⟨v296, v299, rfl, ho0, ho1, hb⟩; refine ⟨_, rfl, ?_⟩; have HO297 := Aside0.mk (Kd.V_lower (Kd.V_mono (ok' := fun k_ => some k_ ≠ (.slice Ao120 t287.length co120 : Value).ownBlock ∧ k_ ≠ gb273 ∧ k_ ≠ gb285 ∧ k_ ≠ gb286 ∧ k_ ≠ gb293) ho0 (fun k_ hk_ => ⟨(Kd.fresh' (Kd.R_lt (by (with_reducible repeat (first | apply Kd.R_alloc | apply Kd.R_drewN | apply Kd.R_drew)); exact (Kd.R_mono (Kd.R_far (p := ⟨gb293, 1, none⟩) (Kd.R_far (p := ⟨gb293, 0, none⟩) (Kd.R_types HO289.out BK293.out (by decide)) (fun _ hk => hk.2) (.slice Ao120 t287.length co120)) (fun _ hk => hk.2) (.int .i64 t290)) (fun _ h_ => h_.1)))) k_ hk_), (Kd.freshB (g := gb273) (o := .cells #[.int .i64 a0_0, .int .u64 a0_1, .int .u64 a0_2, .int .u64 a0_3, .int .u64 a0_4] 25 (0, 0)) (by (with_reducible repeat (first | apply bN_ | apply bD_ | apply bA_)); refine blk_far ?_ NB273_293.out _; (with_reducible repeat (first | apply bN_ | apply bD_ | apply bA_)); refine blk_far ?_ NB273_293.out _; (with_reducible repeat (first | apply bN_ | apply bD_ | apply bA_)); exact BK273.out) k_ hk_), (Kd.freshB (g := gb285) (o := .cells #[.int .i64 t275, .int .u64 t276, .int .u64 t277, .int .u64 t278, .int .u64 t279] 29 (0, 0)) (by (with_reducible repeat (first | apply bN_ | apply bD_ | apply bA_)); refine blk_far ?_ NB285_293.out _; (with_reducible repeat (first | apply bN_ | apply bD_ | apply bA_)); refine blk_far ?_ NB285_293.out _; (with_reducible repeat (first | apply bN_ | apply bD_ | apply bA_)); exact BK285.out) k_ hk_), (Kd.freshB (g := gb286) (o := .cells #[.int .i64 t280, .int .u64 t281, .int .u64 t282, .int .u64 t283, .int .u64 t284] 29 (0, 0)) (by (with_reducible repeat (first | apply bN_ | apply bD_ | apply bA_)); refine blk_far ?_ NB286_293.out _; (with_reducible repeat (first | apply bN_ | apply bD_ | apply bA_)); refine blk_far ?_ NB286_293.out _; (with_reducible repeat (first | apply bN_ | apply bD_ | apply bA_)); exact BK286.out) k_ hk_), (Kd.freshB (g := gb293) (o := .cells #[.slice Ao120 t287.length co120, .int .i64 t290] 37 (0, 0)) (by (with_reducible repeat (first | apply bN_ | apply bD_ | apply bA_)); refine blk_put (cs := #[.slice Ao120 t287.length co120, .int .i64 0]) ?_ 1 _ rfl; (with_reducible repeat (first | apply bN_ | apply bD_ | apply bA_)); refine blk_put (cs := #[.slice none 0 0, .int .i64 0]) ?_ 0 _ rfl; (with_reducible repeat (first | apply bN_ | apply bD_ | apply bA_)); exact BK293.out) k_ hk_)⟩)) (below_size (by repeat (first | (with_reducible first | exact HB.out | apply ba_ | apply bn_ | apply bd_ | refine below_set ?_ GE273.out | refine below_set ?_ GE285.out | refine below_set ?_ GE286.out | refine below_set ?_ GE293.out) | exact HB.out)))); have HO300 := Aside0.mk (Kd.V_lower (Kd.V_mono (ok' := fun k_ => some k_ ≠ (.slice Ao120 t287.length co120 : Value).ownBlock ∧ k_ ≠ gb273 ∧ k_ ≠ gb285 ∧ k_ ≠ gb286 ∧ k_ ≠ gb293) ho1 (fun k_ hk_ => ⟨(Kd.fresh' (Kd.R_lt (by (with_reducible repeat (first | apply Kd.R_alloc | apply Kd.R_drewN | apply Kd.R_drew)); exact (Kd.R_mono (Kd.R_far (p := ⟨gb293, 1, none⟩) (Kd.R_far (p := ⟨gb293, 0, none⟩) (Kd.R_types HO289.out BK293.out (by decide)) (fun _ hk => hk.2) (.slice Ao120 t287.length co120)) (fun _ hk => hk.2) (.int .i64 t290)) (fun _ h_ => h_.1)))) k_ hk_), (Kd.freshB (g := gb273) (o := .cells #[.int .i64 a0_0, .int .u64 a0_1, .int .u64 a0_2, .int .u64 a0_3, .int .u64 a0_4] 25 (0, 0)) (by (with_reducible repeat (first | apply bN_ | apply bD_ | apply bA_)); refine blk_far ?_ NB273_293.out _; (with_reducible repeat (first | apply bN_ | apply bD_ | apply bA_)); refine blk_far ?_ NB273_293.out _; (with_reducible repeat (first | apply bN_ | apply bD_ | apply bA_)); exact BK273.out) k_ hk_), (Kd.freshB (g := gb285) (o := .cells #[.int .i64 t275, .int .u64 t276, .int .u64 t277, .int .u64 t278, .int .u64 t279] 29 (0, 0)) (by (with_reducible repeat (first | apply bN_ | apply bD_ | apply bA_)); refine blk_far ?_ NB285_293.out _; (with_reducible repeat (first | apply bN_ | apply bD_ | apply bA_)); refine blk_far ?_ NB285_293.out _; (with_reducible repeat (first | apply bN_ | apply bD_ | apply bA_)); exact BK285.out) k_ hk_), (Kd.freshB (g := gb286) (o := .cells #[.int .i64 t280, .int .u64 t281, .int .u64 t282, .int .u64 t283, .int .u64 t284] 29 (0, 0)) (by (with_reducible repeat (first | apply bN_ | apply bD_ | apply bA_)); refine blk_far ?_ NB286_293.out _; (with_reducible repeat (first | apply bN_ | apply bD_ | apply bA_)); refine blk_far ?_ NB286_293.out _; (with_reducible repeat (first | apply bN_ | apply bD_ | apply bA_)); exact BK286.out) k_ hk_), (Kd.freshB (g := gb293) (o := .cells #[.slice Ao120 t287.length co120, .int .i64 t290] 37 (0, 0)) (by (with_reducible repeat (first | apply bN_ | apply bD_ | apply bA_)); refine blk_put (cs := #[.slice Ao120 t287.length co120, .int .i64 0]) ?_ 1 _ rfl; (with_reducible repeat (first | apply bN_ | apply bD_ | apply bA_)); refine blk_put (cs := #[.slice none 0 0, .int .i64 0]) ?_ 0 _ rfl; (with_reducible repeat (first | apply bN_ | apply bD_ | apply bA_)); exact BK293.out) k_ hk_)⟩)) (below_size (by repeat (first | (with_reducible first | exact HB.out | apply ba_ | apply bn_ | apply bd_ | refine below_set ?_ GE273.out | refine below_set ?_ GE285.out | refine below_set ?_ GE286.out | refine below_set ?_ GE293.out) | exact HB.out)))); replace HO289 := Aside0.mk (Kd.R_below (by (with_reducible repeat (first | apply Kd.R_alloc | apply Kd.R_drewN | apply Kd.R_drew)); exact (Kd.R_mono (Kd.R_far (p := ⟨gb293, 1, none⟩) (Kd.R_far (p := ⟨gb293, 0, none⟩) (Kd.R_types HO289.out BK293.out (by decide)) (fun _ hk => hk.2) (.slice Ao120 t287.length co120)) (fun _ hk => hk.2) (.int .i64 t290)) (fun _ h_ => h_.1))) hb); replace BK273 := Aside0.mk (blk_below (g := gb273) (o := .cells #[.int .i64 a0_0, .int .u64 a0_1, .int .u64 a0_2, .int .u64 a0_3, .int .u64 a0_4] 25 (0, 0)) (by (with_reducible repeat (first | apply bN_ | apply bD_ | apply bA_)); refine blk_far ?_ NB273_293.out _; (with_reducible repeat (first | apply bN_ | apply bD_ | apply bA_)); refine blk_far ?_ NB273_293.out _; (with_reducible repeat (first | apply bN_ | apply bD_ | apply bA_)); exact BK273.out) hb); replace BK285 := Aside0.mk (blk_below (g := gb285) (o := .cells #[.int .i64 t275, .int .u64 t276, .int .u64 t277, .int .u64 t278, .int .u64 t279] 29 (0, 0)) (by (with_reducible repeat (first | apply bN_ | apply bD_ | apply bA_)); refine blk_far ?_ NB285_293.out _; (with_reducible repeat (first | apply bN_ | apply bD_ | apply bA_)); refine blk_far ?_ NB285_293.out _; (with_reducible repeat (first | apply bN_ | apply bD_ | apply bA_)); exact BK285.out) hb); replace BK286 := Aside0.mk (blk_below (g := gb286) (o := .cells #[.int .i64 t280, .int .u64 t281, .int .u64 t282, .int .u64 t283, .int .u64 t284] 29 (0, 0)) (by (with_reducible repeat (first | apply bN_ | apply bD_ | apply bA_)); refine blk_far ?_ NB286_293.out _; (with_reducible repeat (first | apply bN_ | apply bD_ | apply bA_)); refine blk_far ?_ NB286_293.out _; (with_reducible repeat (first | apply bN_ | apply bD_ | apply bA_)); exact BK286.out) hb); replace BK293 := Aside0.mk (blk_below (g := gb293) (o := .cells #[.slice Ao120 t287.length co120, .int .i64 t290] 37 (0, 0)) (by (with_reducible repeat (first | apply bN_ | apply bD_ | apply bA_)); refine blk_put (cs := #[.slice Ao120 t287.length co120, .int .i64 0]) ?_ 1 _ rfl; (with_reducible repeat (first | apply bN_ | apply bD_ | apply bA_)); refine blk_put (cs := #[.slice none 0 0, .int .i64 0]) ?_ 0 _ rfl; (with_reducible repeat (first | apply bN_ | apply bD_ | apply bA_)); exact BK293.out) hb); replace HB := Aside0.mk (below_step (by repeat (first | (with_reducible first | exact HB.out | apply ba_ | apply bn_ | apply bd_ | refine below_set ?_ GE273.out | refine below_set ?_ GE285.out | refine below_set ?_ GE286.out | refine below_set ?_ GE293.out) | exact HB.out)) hb); (try clear hb); (try clear hb2); (try clear hk); (try clear hi); (try clear ho0); (try clear ho1); obtain ⟨Ao127, co127, eo127⟩ := Kd.V_slice HO297.out; subst eo127; obtain ⟨Ao128, co128, eo128⟩ := Kd.V_slice HO300.out; subst eo128) | ((with_reducible refine gate_callee (f := 47) rfl ?_); refine goesL_ (some 26) rfl rfl Tryd.func47 (by kernel_rfl) rfl #[.agg #[.int .i64 t294, .slice Ao127 t295.length co127, .slice Ao128 t298.length co128]] rfl ar_ ?_; (with_reducible refine (honeycombref05_Check.calls k t294 _ _ t295 _ _ t298 t301 _ ?side1 ?side2 ?side3 ?side4 A9.out).mono ?_); (case side1 => repeat (first | exact (Kd.V_reads' HO297.out).2.2 | (with_reducible refine Kd.C_alloc ?_ _) | (with_reducible refine Kd.C_drewN ?_ _) | (with_reducible refine Kd.C_drew ?_))); (case side2 => exact (Kd.V_reads' HO297.out).2.1); (case side3 => repeat (first | exact (Kd.V_reads' HO300.out).2.2 | (with_reducible refine Kd.C_alloc ?_ _) | (with_reducible refine Kd.C_drewN ?_ _) | (with_reducible refine Kd.C_drew ?_))); (case side4 => exact (Kd.V_reads' HO300.out).2.1); rintro e w129 ⟨rfl, hb⟩; refine ⟨_, rfl, ?_⟩; replace HO289 := Aside0.mk (Kd.R_below (kr_ HO289.out) hb); replace HO297 := Aside0.mk (Kd.V_below (by (with_reducible repeat (first | apply Kd.V_alloc | apply Kd.V_drewN | apply Kd.V_drew)); exact HO297.out) hb); replace HO300 := Aside0.mk (Kd.V_below (by (with_reducible repeat (first | apply Kd.V_alloc | apply Kd.V_drewN | apply Kd.V_drew)); exact HO300.out) hb); replace BK273 := bb_ BK273.out hb; replace BK285 := bb_ BK285.out hb; replace BK286 := bb_ BK286.out hb; replace BK293 := bb_ BK293.out hb; replace HB := Aside0.mk (below_step (by repeat (first | (with_reducible first | exact HB.out | apply ba_ | apply bn_ | apply bd_ | refine below_set ?_ GE273.out | refine below_set ?_ GE285.out | refine below_set ?_ GE286.out | refine below_set ?_ GE293.out) | exact HB.out)) hb); (try clear hb); (try clear hb2); (try clear hk); (try clear hi); have hnb130 := NB286_273.out; have hnc130 := NB273_286.out; obtain ⟨hcz131_0, hcz131_1, hcz131_2, hcz131_3, hcz131_4⟩ := cz5_ BK286.out; obtain ⟨hfz131_0, hfz131_1, hfz131_2, hfz131_3, hfz131_4⟩ := fz5_ BK286.out) | (go_at_call 18; (with_reducible refine (iso_Keeps.calls k t280 t281 t282 t283 t284 a1 t315 _ ?side1 A96.out).mono ?_); (case side1 => exact HGSix.out.below (by repeat (first | (with_reducible first | exact HB.out | apply ba_ | apply bn_ | apply bd_ | refine below_set ?_ GE273.out | refine below_set ?_ GE285.out | refine below_set ?_ GE286.out | refine below_set ?_ GE293.out) | exact HB.out))); rintro e w132 ⟨rfl, hb⟩; replace HO289 := Aside0.mk (Kd.R_below (kr_ HO289.out) hb); replace HO297 := Aside0.mk (Kd.V_below (by (with_reducible repeat (first | apply Kd.V_alloc | apply Kd.V_drewN | apply Kd.V_drew)); exact HO297.out) hb); replace HO300 := Aside0.mk (Kd.V_below (by (with_reducible repeat (first | apply Kd.V_alloc | apply Kd.V_drewN | apply Kd.V_drew)); exact HO300.out) hb); replace BK273 := bb_ BK273.out hb; replace BK285 := bb_ BK285.out hb; replace BK286 := bb_ BK286.out hb; replace BK293 := bb_ BK293.out hb; replace HB := Aside0.mk (below_step (by repeat (first | (with_reducible first | exact HB.out | apply ba_ | apply bn_ | apply bd_ | refine below_set ?_ GE273.out | refine below_set ?_ GE285.out | refine below_set ?_ GE286.out | refine below_set ?_ GE293.out) | exact HB.out)) hb); (try clear hb); (try clear hb2); (try clear hk); (try clear hi)))
  go_ret
  exact ⟨er_, by repeat (first | (with_reducible first | exact HB.out | apply ba_ | apply bn_ | apply bd_ | refine below_set ?_ GE273.out | refine below_set ?_ GE285.out | refine below_set ?_ GE286.out | refine below_set ?_ GE293.out) | exact HB.out)⟩
 rw [if_pos c12] at H
 have c12b0 : decide (a1 < 12) = true := decide_eq_true c12
 clear c12
 replace H := Option.bind_eq_some_iff.mp H
 obtain ⟨⟨t304, t305, t308⟩, A130, H⟩ := H
 replace H : ((honeycombref07_Keeps.f k t304 t305 t308 a1).bind fun t311 => (if t292.isNone = true then ((iso_Keeps.f k t280 t281 t282 t283 t284 a1).bind fun t313 => (some (t313 == t311))) else (some false))) = some r := H
 have A13 := Aside0.mk A130
 clear A130
 replace H := Option.bind_eq_some_iff.mp H
 obtain ⟨t311, A140, H⟩ := H
 replace H : (if t292.isNone = true then ((iso_Keeps.f k t280 t281 t282 t283 t284 a1).bind fun t313 => (some (t313 == t311))) else (some false)) = some r := H
 have A14 := Aside0.mk A140
 clear A140
 rcases t292 with _ | q312
 rotate_left
 ·
  have H1 : (some false) = some r := by rw [if_neg (show ¬ (some q312).isNone = true by simp)] at H; exact H
  clear H
  have H := H1
  clear H1
  try simp only [errW_none, errW_some]
  exact absurd ((Option.some.inj H).trans Hr_.out) (by decide)
 have H1 : ((iso_Keeps.f k t280 t281 t282 t283 t284 a1).bind fun t313 => (some (t313 == t311))) = some r := by rw [if_pos (show (none : Option Int).isNone = true by rfl)] at H; exact H
 clear H
 have H := H1
 clear H1
 try simp only [errW_none, errW_some]
 replace H := Option.bind_eq_some_iff.mp H
 obtain ⟨t313, A150, H⟩ := H
 replace H : (some (t313 == t311)) = some r := H
 have A15 := Aside0.mk A150
 clear A150
 obtain rfl := Option.some.inj H
 try go_wp2_with (first | ((with_reducible refine gate_callee (f := 17) rfl ?_); refine goesL_ (some 20) rfl rfl Tryd.func17 (by kernel_rfl) rfl #[.agg #[.int .i64 t275, .int .u64 t276, .int .u64 t277, .int .u64 t278, .int .u64 t279]] rfl ar_ ?_; (with_reducible refine (iso_Check.calls k t275 t276 t277 t278 t279 t287 t290 t291 none _ ?side1 A7.out).mono ?_); (case side1 => exact HGSix.out.below (hg3_ GE273.out GE285.out GE286.out)); rintro e w37 ⟨v288, rfl, ho0, hb⟩; refine ⟨_, rfl, ?_⟩; have HO289 := Aside0.mk (Kd.R_lower ho0 (below_size (hg3_ GE273.out GE285.out GE286.out))); replace BK273 := Aside0.mk (blk_below (g := gb273) (o := .cells #[.int .i64 a0_0, .int .u64 a0_1, .int .u64 a0_2, .int .u64 a0_3, .int .u64 a0_4] 25 (0, 0)) (by (with_reducible repeat (first | apply bN_ | apply bD_ | apply bA_)); refine blk_far ?_ NB273_286.out _; (with_reducible repeat (first | apply bN_ | apply bD_ | apply bA_)); refine blk_far ?_ NB273_286.out _; (with_reducible repeat (first | apply bN_ | apply bD_ | apply bA_)); refine blk_far ?_ NB273_286.out _; (with_reducible repeat (first | apply bN_ | apply bD_ | apply bA_)); refine blk_far ?_ NB273_286.out _; (with_reducible repeat (first | apply bN_ | apply bD_ | apply bA_)); refine blk_far ?_ NB273_286.out _; (with_reducible repeat (first | apply bN_ | apply bD_ | apply bA_)); refine blk_far ?_ NB273_285.out _; (with_reducible repeat (first | apply bN_ | apply bD_ | apply bA_)); refine blk_far ?_ NB273_285.out _; (with_reducible repeat (first | apply bN_ | apply bD_ | apply bA_)); refine blk_far ?_ NB273_285.out _; (with_reducible repeat (first | apply bN_ | apply bD_ | apply bA_)); refine blk_far ?_ NB273_285.out _; (with_reducible repeat (first | apply bN_ | apply bD_ | apply bA_)); refine blk_far ?_ NB273_285.out _; (with_reducible repeat (first | apply bN_ | apply bD_ | apply bA_)); exact BK273.out) hb); replace BK285 := Aside0.mk (blk_below (g := gb285) (o := .cells #[.int .i64 t275, .int .u64 t276, .int .u64 t277, .int .u64 t278, .int .u64 t279] 29 (0, 0)) (by (with_reducible repeat (first | apply bN_ | apply bD_ | apply bA_)); refine blk_far ?_ NB285_286.out _; (with_reducible repeat (first | apply bN_ | apply bD_ | apply bA_)); refine blk_far ?_ NB285_286.out _; (with_reducible repeat (first | apply bN_ | apply bD_ | apply bA_)); refine blk_far ?_ NB285_286.out _; (with_reducible repeat (first | apply bN_ | apply bD_ | apply bA_)); refine blk_far ?_ NB285_286.out _; (with_reducible repeat (first | apply bN_ | apply bD_ | apply bA_)); refine blk_far ?_ NB285_286.out _; (with_reducible repeat (first | apply bN_ | apply bD_ | apply bA_)); refine blk_put (cs := #[.int .i64 t275, .int .u64 t276, .int .u64 t277, .int .u64 t278, .int .u64 0]) ?_ 4 _ rfl; (with_reducible repeat (first | apply bN_ | apply bD_ | apply bA_)); refine blk_put (cs := #[.int .i64 t275, .int .u64 t276, .int .u64 t277, .int .u64 0, .int .u64 0]) ?_ 3 _ rfl; (with_reducible repeat (first | apply bN_ | apply bD_ | apply bA_)); refine blk_put (cs := #[.int .i64 t275, .int .u64 t276, .int .u64 0, .int .u64 0, .int .u64 0]) ?_ 2 _ rfl; (with_reducible repeat (first | apply bN_ | apply bD_ | apply bA_)); refine blk_put (cs := #[.int .i64 t275, .int .u64 0, .int .u64 0, .int .u64 0, .int .u64 0]) ?_ 1 _ rfl; (with_reducible repeat (first | apply bN_ | apply bD_ | apply bA_)); refine blk_put (cs := #[.int .i64 0, .int .u64 0, .int .u64 0, .int .u64 0, .int .u64 0]) ?_ 0 _ rfl; (with_reducible repeat (first | apply bN_ | apply bD_ | apply bA_)); exact BK285.out) hb); replace BK286 := Aside0.mk (blk_below (g := gb286) (o := .cells #[.int .i64 t280, .int .u64 t281, .int .u64 t282, .int .u64 t283, .int .u64 t284] 29 (0, 0)) (by (with_reducible repeat (first | apply bN_ | apply bD_ | apply bA_)); refine blk_put (cs := #[.int .i64 t280, .int .u64 t281, .int .u64 t282, .int .u64 t283, .int .u64 0]) ?_ 4 _ rfl; (with_reducible repeat (first | apply bN_ | apply bD_ | apply bA_)); refine blk_put (cs := #[.int .i64 t280, .int .u64 t281, .int .u64 t282, .int .u64 0, .int .u64 0]) ?_ 3 _ rfl; (with_reducible repeat (first | apply bN_ | apply bD_ | apply bA_)); refine blk_put (cs := #[.int .i64 t280, .int .u64 t281, .int .u64 0, .int .u64 0, .int .u64 0]) ?_ 2 _ rfl; (with_reducible repeat (first | apply bN_ | apply bD_ | apply bA_)); refine blk_put (cs := #[.int .i64 t280, .int .u64 0, .int .u64 0, .int .u64 0, .int .u64 0]) ?_ 1 _ rfl; (with_reducible repeat (first | apply bN_ | apply bD_ | apply bA_)); refine blk_put (cs := #[.int .i64 0, .int .u64 0, .int .u64 0, .int .u64 0, .int .u64 0]) ?_ 0 _ rfl; (with_reducible repeat (first | apply bN_ | apply bD_ | apply bA_)); refine blk_far ?_ NB286_285.out _; (with_reducible repeat (first | apply bN_ | apply bD_ | apply bA_)); refine blk_far ?_ NB286_285.out _; (with_reducible repeat (first | apply bN_ | apply bD_ | apply bA_)); refine blk_far ?_ NB286_285.out _; (with_reducible repeat (first | apply bN_ | apply bD_ | apply bA_)); refine blk_far ?_ NB286_285.out _; (with_reducible repeat (first | apply bN_ | apply bD_ | apply bA_)); refine blk_far ?_ NB286_285.out _; (with_reducible repeat (first | apply bN_ | apply bD_ | apply bA_)); exact BK286.out) hb); replace HB := Aside0.mk (below_step (hg3_ GE273.out GE285.out GE286.out) hb); (try clear hb); (try clear hb2); (try clear hk); (try clear hi); (try clear ho0); (try simp only [errW_none, errW_some])) | ((with_reducible refine gate_dst (N := 7) rfl ?_); refine bx_ 7 #[.slice none 0 0, .int .i64 0] 37 ?_; intro gb293 hg w38 hbox hb; have BK293 := Aside0.mk (hbox); have GW293 := Aside0.mk ((by rw [hg]; exact (below_size (hg3_ GE273.out GE285.out GE286.out)) : w.heap.size ≤ gb293)); have GE293 := GW293; have NB273_293 := Aside0.mk ((by rw [hg]; exact ne1_ BK273.out : gb273 ≠ gb293)); have NB293_273 := Aside0.mk ((by rw [hg]; exact ne2_ BK273.out : gb293 ≠ gb273)); have NB285_293 := Aside0.mk ((by rw [hg]; exact ne1_ BK285.out : gb285 ≠ gb293)); have NB293_285 := Aside0.mk ((by rw [hg]; exact ne2_ BK285.out : gb293 ≠ gb285)); have NB286_293 := Aside0.mk ((by rw [hg]; exact ne1_ BK286.out : gb286 ≠ gb293)); have NB293_286 := Aside0.mk ((by rw [hg]; exact ne2_ BK286.out : gb293 ≠ gb286)); replace HO289 := Aside0.mk (Kd.R_below (kr_ HO289.out) hb); replace BK273 := bb_ BK273.out hb; replace BK285 := bb_ BK285.out hb; replace BK286 := bb_ BK286.out hb; replace HB := Aside0.mk (below_step (hg3_ GE273.out GE285.out GE286.out) hb); clear hb hbox hg; obtain ⟨Ao39, co39, eo39⟩ := Kd.R_slice HO289.out; subst eo39; have hnb40 := NB293_273.out; have hnc40 := NB273_293.out; have hnb41 := NB293_285.out; have hnc41 := NB285_293.out; have hnb42 := NB293_286.out; have hnc42 := NB286_293.out; obtain ⟨hcz43_0, hcz43_1⟩ := cz2_ BK293.out; obtain ⟨hfz43_0, hfz43_1⟩ := fz2_ BK293.out; obtain ⟨hcz44_0, hcz44_1, hcz44_2, hcz44_3, hcz44_4⟩ := cz5_ BK285.out; obtain ⟨hfz44_0, hfz44_1, hfz44_2, hfz44_3, hfz44_4⟩ := fz5_ BK285.out) | ((with_reducible refine gate_callee (f := 27) rfl ?_); refine goesL_ (some 25) rfl rfl Tryd.func27 (by kernel_rfl) rfl #[.agg #[.int .i64 t275, .int .u64 t276, .int .u64 t277, .int .u64 t278, .int .u64 t279]] rfl ar_ ?_; (with_reducible refine (XTold5.calls t275 t276 t277 t278 t279 t294 t295 t298 _ A8.out).mono ?_); rintro e w45 ⟨v296, v299, rfl, ho0, ho1, hb⟩; refine ⟨_, rfl, ?_⟩; have HO297 := Aside0.mk (Kd.V_lower (Kd.V_mono (ok' := fun k_ => some k_ ≠ (.slice Ao39 t287.length co39 : Value).ownBlock ∧ k_ ≠ gb273 ∧ k_ ≠ gb285 ∧ k_ ≠ gb286 ∧ k_ ≠ gb293) ho0 (fun k_ hk_ => ⟨(Kd.fresh' (Kd.R_lt (by (with_reducible repeat (first | apply Kd.R_alloc | apply Kd.R_drewN | apply Kd.R_drew)); exact (Kd.R_mono (Kd.R_far (p := ⟨gb293, 1, none⟩) (Kd.R_far (p := ⟨gb293, 0, none⟩) (Kd.R_types HO289.out BK293.out (by decide)) (fun _ hk => hk.2) (.slice Ao39 t287.length co39)) (fun _ hk => hk.2) (.int .i64 t290)) (fun _ h_ => h_.1)))) k_ hk_), (Kd.freshB (g := gb273) (o := .cells #[.int .i64 a0_0, .int .u64 a0_1, .int .u64 a0_2, .int .u64 a0_3, .int .u64 a0_4] 25 (0, 0)) (by (with_reducible repeat (first | apply bN_ | apply bD_ | apply bA_)); refine blk_far ?_ NB273_293.out _; (with_reducible repeat (first | apply bN_ | apply bD_ | apply bA_)); refine blk_far ?_ NB273_293.out _; (with_reducible repeat (first | apply bN_ | apply bD_ | apply bA_)); exact BK273.out) k_ hk_), (Kd.freshB (g := gb285) (o := .cells #[.int .i64 t275, .int .u64 t276, .int .u64 t277, .int .u64 t278, .int .u64 t279] 29 (0, 0)) (by (with_reducible repeat (first | apply bN_ | apply bD_ | apply bA_)); refine blk_far ?_ NB285_293.out _; (with_reducible repeat (first | apply bN_ | apply bD_ | apply bA_)); refine blk_far ?_ NB285_293.out _; (with_reducible repeat (first | apply bN_ | apply bD_ | apply bA_)); exact BK285.out) k_ hk_), (Kd.freshB (g := gb286) (o := .cells #[.int .i64 t280, .int .u64 t281, .int .u64 t282, .int .u64 t283, .int .u64 t284] 29 (0, 0)) (by (with_reducible repeat (first | apply bN_ | apply bD_ | apply bA_)); refine blk_far ?_ NB286_293.out _; (with_reducible repeat (first | apply bN_ | apply bD_ | apply bA_)); refine blk_far ?_ NB286_293.out _; (with_reducible repeat (first | apply bN_ | apply bD_ | apply bA_)); exact BK286.out) k_ hk_), (Kd.freshB (g := gb293) (o := .cells #[.slice Ao39 t287.length co39, .int .i64 t290] 37 (0, 0)) (by (with_reducible repeat (first | apply bN_ | apply bD_ | apply bA_)); refine blk_put (cs := #[.slice Ao39 t287.length co39, .int .i64 0]) ?_ 1 _ rfl; (with_reducible repeat (first | apply bN_ | apply bD_ | apply bA_)); refine blk_put (cs := #[.slice none 0 0, .int .i64 0]) ?_ 0 _ rfl; (with_reducible repeat (first | apply bN_ | apply bD_ | apply bA_)); exact BK293.out) k_ hk_)⟩)) (below_size (by repeat (first | (with_reducible first | exact HB.out | apply ba_ | apply bn_ | apply bd_ | refine below_set ?_ GE273.out | refine below_set ?_ GE285.out | refine below_set ?_ GE286.out | refine below_set ?_ GE293.out) | exact HB.out)))); have HO300 := Aside0.mk (Kd.V_lower (Kd.V_mono (ok' := fun k_ => some k_ ≠ (.slice Ao39 t287.length co39 : Value).ownBlock ∧ k_ ≠ gb273 ∧ k_ ≠ gb285 ∧ k_ ≠ gb286 ∧ k_ ≠ gb293) ho1 (fun k_ hk_ => ⟨(Kd.fresh' (Kd.R_lt (by (with_reducible repeat (first | apply Kd.R_alloc | apply Kd.R_drewN | apply Kd.R_drew)); exact (Kd.R_mono (Kd.R_far (p := ⟨gb293, 1, none⟩) (Kd.R_far (p := ⟨gb293, 0, none⟩) (Kd.R_types HO289.out BK293.out (by decide)) (fun _ hk => hk.2) (.slice Ao39 t287.length co39)) (fun _ hk => hk.2) (.int .i64 t290)) (fun _ h_ => h_.1)))) k_ hk_), (Kd.freshB (g := gb273) (o := .cells #[.int .i64 a0_0, .int .u64 a0_1, .int .u64 a0_2, .int .u64 a0_3, .int .u64 a0_4] 25 (0, 0)) (by (with_reducible repeat (first | apply bN_ | apply bD_ | apply bA_)); refine blk_far ?_ NB273_293.out _; (with_reducible repeat (first | apply bN_ | apply bD_ | apply bA_)); refine blk_far ?_ NB273_293.out _; (with_reducible repeat (first | apply bN_ | apply bD_ | apply bA_)); exact BK273.out) k_ hk_), (Kd.freshB (g := gb285) (o := .cells #[.int .i64 t275, .int .u64 t276, .int .u64 t277, .int .u64 t278, .int .u64 t279] 29 (0, 0)) (by (with_reducible repeat (first | apply bN_ | apply bD_ | apply bA_)); refine blk_far ?_ NB285_293.out _; (with_reducible repeat (first | apply bN_ | apply bD_ | apply bA_)); refine blk_far ?_ NB285_293.out _; (with_reducible repeat (first | apply bN_ | apply bD_ | apply bA_)); exact BK285.out) k_ hk_), (Kd.freshB (g := gb286) (o := .cells #[.int .i64 t280, .int .u64 t281, .int .u64 t282, .int .u64 t283, .int .u64 t284] 29 (0, 0)) (by (with_reducible repeat (first | apply bN_ | apply bD_ | apply bA_)); refine blk_far ?_ NB286_293.out _; (with_reducible repeat (first | apply bN_ | apply bD_ | apply bA_)); refine blk_far ?_ NB286_293.out _; (with_reducible repeat (first | apply bN_ | apply bD_ | apply bA_)); exact BK286.out) k_ hk_), (Kd.freshB (g := gb293) (o := .cells #[.slice Ao39 t287.length co39, .int .i64 t290] 37 (0, 0)) (by (with_reducible repeat (first | apply bN_ | apply bD_ | apply bA_)); refine blk_put (cs := #[.slice Ao39 t287.length co39, .int .i64 0]) ?_ 1 _ rfl; (with_reducible repeat (first | apply bN_ | apply bD_ | apply bA_)); refine blk_put (cs := #[.slice none 0 0, .int .i64 0]) ?_ 0 _ rfl; (with_reducible repeat (first | apply bN_ | apply bD_ | apply bA_)); exact BK293.out) k_ hk_)⟩)) (below_size (by repeat (first | (with_reducible first | exact HB.out | apply ba_ | apply bn_ | apply bd_ | refine below_set ?_ GE273.out | refine below_set ?_ GE285.out | refine below_set ?_ GE286.out | refine below_set ?_ GE293.out) | exact HB.out)))); replace HO289 := Aside0.mk (Kd.R_below (by (with_reducible repeat (first | apply Kd.R_alloc | apply Kd.R_drewN | apply Kd.R_drew)); exact (Kd.R_mono (Kd.R_far (p := ⟨gb293, 1, none⟩) (Kd.R_far (p := ⟨gb293, 0, none⟩) (Kd.R_types HO289.out BK293.out (by decide)) (fun _ hk => hk.2) (.slice Ao39 t287.length co39)) (fun _ hk => hk.2) (.int .i64 t290)) (fun _ h_ => h_.1))) hb); replace BK273 := Aside0.mk (blk_below (g := gb273) (o := .cells #[.int .i64 a0_0, .int .u64 a0_1, .int .u64 a0_2, .int .u64 a0_3, .int .u64 a0_4] 25 (0, 0)) (by (with_reducible repeat (first | apply bN_ | apply bD_ | apply bA_)); refine blk_far ?_ NB273_293.out _; (with_reducible repeat (first | apply bN_ | apply bD_ | apply bA_)); refine blk_far ?_ NB273_293.out _; (with_reducible repeat (first | apply bN_ | apply bD_ | apply bA_)); exact BK273.out) hb); replace BK285 := Aside0.mk (blk_below (g := gb285) (o := .cells #[.int .i64 t275, .int .u64 t276, .int .u64 t277, .int .u64 t278, .int .u64 t279] 29 (0, 0)) (by (with_reducible repeat (first | apply bN_ | apply bD_ | apply bA_)); refine blk_far ?_ NB285_293.out _; (with_reducible repeat (first | apply bN_ | apply bD_ | apply bA_)); refine blk_far ?_ NB285_293.out _; (with_reducible repeat (first | apply bN_ | apply bD_ | apply bA_)); exact BK285.out) hb); replace BK286 := Aside0.mk (blk_below (g := gb286) (o := .cells #[.int .i64 t280, .int .u64 t281, .int .u64 t282, .int .u64 t283, .int .u64 t284] 29 (0, 0)) (by (with_reducible repeat (first | apply bN_ | apply bD_ | apply bA_)); refine blk_far ?_ NB286_293.out _; (with_reducible repeat (first | apply bN_ | apply bD_ | apply bA_)); refine blk_far ?_ NB286_293.out _; (with_reducible repeat (first | apply bN_ | apply bD_ | apply bA_)); exact BK286.out) hb); replace BK293 := Aside0.mk (blk_below (g := gb293) (o := .cells #[.slice Ao39 t287.length co39, .int .i64 t290] 37 (0, 0)) (by (with_reducible repeat (first | apply bN_ | apply bD_ | apply bA_)); refine blk_put (cs := #[.slice Ao39 t287.length co39, .int .i64 0]) ?_ 1 _ rfl; (with_reducible repeat (first | apply bN_ | apply bD_ | apply bA_)); refine blk_put (cs := #[.slice none 0 0, .int .i64 0]) ?_ 0 _ rfl; (with_reducible repeat (first | apply bN_ | apply bD_ | apply bA_)); exact BK293.out) hb); replace HB := Aside0.mk (below_step (by repeat (first | (with_reducible first | exact HB.out | apply ba_ | apply bn_ | apply bd_ | refine below_set ?_ GE273.out | refine below_set ?_ GE285.out | refine below_set ?_ GE286.out | refine below_set ?_ GE293.out) | exact HB.out)) hb); (try clear hb); (try clear hb2); (try clear hk); (try clear hi); (try clear ho0); (try clear ho1); obtain ⟨Ao46, co46, eo46⟩ := Kd.V_slice HO297.out; subst eo46; obtain ⟨Ao47, co47, eo47⟩ := Kd.V_slice HO300.out; subst eo47) | ((with_reducible refine gate_callee (f := 47) rfl ?_); refine goesL_ (some 26) rfl rfl Tryd.func47 (by kernel_rfl) rfl #[.agg #[.int .i64 t294, .slice Ao46 t295.length co46, .slice Ao47 t298.length co47]] rfl ar_ ?_; (with_reducible refine (honeycombref05_Check.calls k t294 _ _ t295 _ _ t298 t301 _ ?side1 ?side2 ?side3 ?side4 A9.out).mono ?_); (case side1 => repeat (first | exact (Kd.V_reads' HO297.out).2.2 | (with_reducible refine Kd.C_alloc ?_ _) | (with_reducible refine Kd.C_drewN ?_ _) | (with_reducible refine Kd.C_drew ?_))); (case side2 => exact (Kd.V_reads' HO297.out).2.1); (case side3 => repeat (first | exact (Kd.V_reads' HO300.out).2.2 | (with_reducible refine Kd.C_alloc ?_ _) | (with_reducible refine Kd.C_drewN ?_ _) | (with_reducible refine Kd.C_drew ?_))); (case side4 => exact (Kd.V_reads' HO300.out).2.1); rintro e w48 ⟨rfl, hb⟩; refine ⟨_, rfl, ?_⟩; replace HO289 := Aside0.mk (Kd.R_below (kr_ HO289.out) hb); replace HO297 := Aside0.mk (Kd.V_below (by (with_reducible repeat (first | apply Kd.V_alloc | apply Kd.V_drewN | apply Kd.V_drew)); exact HO297.out) hb); replace HO300 := Aside0.mk (Kd.V_below (by (with_reducible repeat (first | apply Kd.V_alloc | apply Kd.V_drewN | apply Kd.V_drew)); exact HO300.out) hb); replace BK273 := bb_ BK273.out hb; replace BK285 := bb_ BK285.out hb; replace BK286 := bb_ BK286.out hb; replace BK293 := bb_ BK293.out hb; replace HB := Aside0.mk (below_step (by repeat (first | (with_reducible first | exact HB.out | apply ba_ | apply bn_ | apply bd_ | refine below_set ?_ GE273.out | refine below_set ?_ GE285.out | refine below_set ?_ GE286.out | refine below_set ?_ GE293.out) | exact HB.out)) hb); (try clear hb); (try clear hb2); (try clear hk); (try clear hi); have hnb49 := NB286_273.out; have hnc49 := NB273_286.out; obtain ⟨hcz50_0, hcz50_1, hcz50_2, hcz50_3, hcz50_4⟩ := cz5_ BK286.out; obtain ⟨hfz50_0, hfz50_1, hfz50_2, hfz50_3, hfz50_4⟩ := fz5_ BK286.out) | (go_at_call 27; (with_reducible refine (XTold5.calls t280 t281 t282 t283 t284 t304 t305 t308 _ A13.out).mono ?_); rintro e w51 ⟨v306, v309, rfl, ho0, ho1, hb⟩; have HO307 := Aside0.mk (Kd.V_lower (Kd.V_mono (ok' := fun k_ => some k_ ≠ (.slice Ao39 t287.length co39 : Value).ownBlock ∧ k_ ≠ gb273 ∧ k_ ≠ gb285 ∧ k_ ≠ gb286 ∧ k_ ≠ gb293) ho0 (fun k_ hk_ => ⟨(Kd.fresh' (Kd.R_lt (kr_ HO289.out)) k_ hk_), (Kd.freshB (g := gb273) (o := .cells #[.int .i64 a0_0, .int .u64 a0_1, .int .u64 a0_2, .int .u64 a0_3, .int .u64 a0_4] 25 (0, 0)) (bk_ BK273.out) k_ hk_), (Kd.freshB (g := gb285) (o := .cells #[.int .i64 t275, .int .u64 t276, .int .u64 t277, .int .u64 t278, .int .u64 t279] 29 (0, 0)) (bk_ BK285.out) k_ hk_), (Kd.freshB (g := gb286) (o := .cells #[.int .i64 t280, .int .u64 t281, .int .u64 t282, .int .u64 t283, .int .u64 t284] 29 (0, 0)) (bk_ BK286.out) k_ hk_), (Kd.freshB (g := gb293) (o := .cells #[.slice Ao39 t287.length co39, .int .i64 t290] 37 (0, 0)) (bk_ BK293.out) k_ hk_)⟩)) (below_size (by repeat (first | (with_reducible first | exact HB.out | apply ba_ | apply bn_ | apply bd_ | refine below_set ?_ GE273.out | refine below_set ?_ GE285.out | refine below_set ?_ GE286.out | refine below_set ?_ GE293.out) | exact HB.out)))); have HO310 := Aside0.mk (Kd.V_lower (Kd.V_mono (ok' := fun k_ => some k_ ≠ (.slice Ao39 t287.length co39 : Value).ownBlock ∧ k_ ≠ gb273 ∧ k_ ≠ gb285 ∧ k_ ≠ gb286 ∧ k_ ≠ gb293) ho1 (fun k_ hk_ => ⟨(Kd.fresh' (Kd.R_lt (kr_ HO289.out)) k_ hk_), (Kd.freshB (g := gb273) (o := .cells #[.int .i64 a0_0, .int .u64 a0_1, .int .u64 a0_2, .int .u64 a0_3, .int .u64 a0_4] 25 (0, 0)) (bk_ BK273.out) k_ hk_), (Kd.freshB (g := gb285) (o := .cells #[.int .i64 t275, .int .u64 t276, .int .u64 t277, .int .u64 t278, .int .u64 t279] 29 (0, 0)) (bk_ BK285.out) k_ hk_), (Kd.freshB (g := gb286) (o := .cells #[.int .i64 t280, .int .u64 t281, .int .u64 t282, .int .u64 t283, .int .u64 t284] 29 (0, 0)) (bk_ BK286.out) k_ hk_), (Kd.freshB (g := gb293) (o := .cells #[.slice Ao39 t287.length co39, .int .i64 t290] 37 (0, 0)) (bk_ BK293.out) k_ hk_)⟩)) (below_size (by repeat (first | (with_reducible first | exact HB.out | apply ba_ | apply bn_ | apply bd_ | refine below_set ?_ GE273.out | refine below_set ?_ GE285.out | refine below_set ?_ GE286.out | refine below_set ?_ GE293.out) | exact HB.out)))); replace HO289 := Aside0.mk (Kd.R_below (kr_ HO289.out) hb); replace HO297 := Aside0.mk (Kd.V_below (by (with_reducible repeat (first | apply Kd.V_alloc | apply Kd.V_drewN | apply Kd.V_drew)); exact HO297.out) hb); replace HO300 := Aside0.mk (Kd.V_below (by (with_reducible repeat (first | apply Kd.V_alloc | apply Kd.V_drewN | apply Kd.V_drew)); exact HO300.out) hb); replace BK273 := bb_ BK273.out hb; replace BK285 := bb_ BK285.out hb; replace BK286 := bb_ BK286.out hb; replace BK293 := bb_ BK293.out hb; replace HB := Aside0.mk (below_step (by repeat (first | (with_reducible first | exact HB.out | apply ba_ | apply bn_ | apply bd_ | refine below_set ?_ GE273.out | refine below_set ?_ GE285.out | refine below_set ?_ GE286.out | refine below_set ?_ GE293.out) | exact HB.out)) hb); (try clear hb); (try clear hb2); (try clear hk); (try clear hi); (try clear ho0); (try clear ho1); obtain ⟨Ao52, co52, eo52⟩ := Kd.V_slice HO307.out; subst eo52; obtain ⟨Ao53, co53, eo53⟩ := Kd.V_slice HO310.out; subst eo53) | (go_at_call 42; (with_reducible refine (honeycombref07_Keeps.calls k t304 _ _ t305 _ _ t308 a1 t311 _ ?side1 ?side2 ?side3 ?side4 A14.out).mono ?_); (case side1 => repeat (first | exact (Kd.V_reads' HO307.out).2.2 | (with_reducible refine Kd.C_alloc ?_ _) | (with_reducible refine Kd.C_drewN ?_ _) | (with_reducible refine Kd.C_drew ?_))); (case side2 => exact (Kd.V_reads' HO307.out).2.1); (case side3 => repeat (first | exact (Kd.V_reads' HO310.out).2.2 | (with_reducible refine Kd.C_alloc ?_ _) | (with_reducible refine Kd.C_drewN ?_ _) | (with_reducible refine Kd.C_drew ?_))); (case side4 => exact (Kd.V_reads' HO310.out).2.1); rintro e w54 ⟨rfl, hb⟩; replace HO289 := Aside0.mk (Kd.R_below (kr_ HO289.out) hb); replace HO297 := Aside0.mk (Kd.V_below (by (with_reducible repeat (first | apply Kd.V_alloc | apply Kd.V_drewN | apply Kd.V_drew)); exact HO297.out) hb); replace HO300 := Aside0.mk (Kd.V_below (by (with_reducible repeat (first | apply Kd.V_alloc | apply Kd.V_drewN | apply Kd.V_drew)); exact HO300.out) hb); replace HO307 := Aside0.mk (Kd.V_below (by (with_reducible repeat (first | apply Kd.V_alloc | apply Kd.V_drewN | apply Kd.V_drew)); exact HO307.out) hb); replace HO310 := Aside0.mk (Kd.V_below (by (with_reducible repeat (first | apply Kd.V_alloc | apply Kd.V_drewN | apply Kd.V_drew)); exact HO310.out) hb); replace BK273 := bb_ BK273.out hb; replace BK285 := bb_ BK285.out hb; replace BK286 := bb_ BK286.out hb; replace BK293 := bb_ BK293.out hb; replace HB := Aside0.mk (below_step (by repeat (first | (with_reducible first | exact HB.out | apply ba_ | apply bn_ | apply bd_ | refine below_set ?_ GE273.out | refine below_set ?_ GE285.out | refine below_set ?_ GE286.out | refine below_set ?_ GE293.out) | exact HB.out)) hb); (try clear hb); (try clear hb2); (try clear hk); (try clear hi); obtain ⟨hcz55_0, hcz55_1, hcz55_2, hcz55_3, hcz55_4⟩ := cz5_ BK286.out; obtain ⟨hfz55_0, hfz55_1, hfz55_2, hfz55_3, hfz55_4⟩ := fz5_ BK286.out) | (go_at_call 18; (with_reducible refine (iso_Keeps.calls k t280 t281 t282 t283 t284 a1 t313 _ ?side1 A15.out).mono ?_); (case side1 => exact HGSix.out.below (by repeat (first | (with_reducible first | exact HB.out | apply ba_ | apply bn_ | apply bd_ | refine below_set ?_ GE273.out | refine below_set ?_ GE285.out | refine below_set ?_ GE286.out | refine below_set ?_ GE293.out) | exact HB.out))); rintro e w56 ⟨rfl, hb⟩; replace HO289 := Aside0.mk (Kd.R_below (kr_ HO289.out) hb); replace HO297 := Aside0.mk (Kd.V_below (by (with_reducible repeat (first | apply Kd.V_alloc | apply Kd.V_drewN | apply Kd.V_drew)); exact HO297.out) hb); replace HO300 := Aside0.mk (Kd.V_below (by (with_reducible repeat (first | apply Kd.V_alloc | apply Kd.V_drewN | apply Kd.V_drew)); exact HO300.out) hb); replace HO307 := Aside0.mk (Kd.V_below (by (with_reducible repeat (first | apply Kd.V_alloc | apply Kd.V_drewN | apply Kd.V_drew)); exact HO307.out) hb); replace HO310 := Aside0.mk (Kd.V_below (by (with_reducible repeat (first | apply Kd.V_alloc | apply Kd.V_drewN | apply Kd.V_drew)); exact HO310.out) hb); replace BK273 := bb_ BK273.out hb; replace BK285 := bb_ BK285.out hb; replace BK286 := bb_ BK286.out hb; replace BK293 := bb_ BK293.out hb; replace HB := Aside0.mk (below_step (by repeat (first | (with_reducible first | exact HB.out | apply ba_ | apply bn_ | apply bd_ | refine below_set ?_ GE273.out | refine below_set ?_ GE285.out | refine below_set ?_ GE286.out | refine below_set ?_ GE293.out) | exact HB.out)) hb); (try clear hb); (try clear hb2); (try clear hk); (try clear hi)))
 go_ret
 exact ⟨er_, by repeat (first | (with_reducible first | exact HB.out | apply ba_ | apply bn_ | apply bd_ | refine below_set ?_ GE273.out | refine below_set ?_ GE285.out | refine below_set ?_ GE286.out | refine below_set ?_ GE293.out) | exact HB.out)⟩
end Go.Proofs.YtaeenefdbahfoaaDoor.H
