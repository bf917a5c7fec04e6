-- Printed for this claim by wip/tools/hp2.py (our own call of the kit's printer). Lean checks it.
import Derived.Test.YtaeenefdbahfoaaDoorH0
import Derived.Test.YtaeenefdbahfoaaDoorHCell0
import Derived.Test.YtaeenefdbahfoaaDoorHIso1
import Derived.Test.YtaeenefdbahfoaaDoorHTab
import Derived.Test.YtaeenefdbahfoaaDoorAxis
import Derived.Test.YtaeenefdbahfoaaDoorXAwake07
import Derived.Test.YtaeenefdbahfoaaDoorXSome5
namespace Go.Proofs.YtaeenefdbahfoaaDoor.H
open Go.RowKit Go.Proofs.YtaeenefdbahfoaaDoorW.PrintWords Go.Proofs.YtaeenefdbahfoaaDoorW.PrintLast Go.Proofs.YtaeenefdbahfoaaDoorW.PrintMore
attribute [local go_sem] max2_int min2_int max_two min_two max_three min_three max_four min_four   -- for this text's walks alone
set_option linter.unusedVariables false
set_option linter.unusedSimpArgs false

/-! ### honeycomblaw07_IsoGroup: function 10 -/
def honeycomblaw07_IsoGroup.j0 : Nat → Int → Bool → Int → Int → Int → Int → Int → Option (Bool)
 | 0, _, _, _, _, _, _, _ => none
 | k + 1, x8, x48, x838000, x838001, x838002, x838003, x838004 => if x48 = true then (some false) else ((honeycomblaw07_whole.f k x838000 x838001 x838002 x838003 x838004).bind fun bt849 => ((iso_Keeps.f k bt849.1 bt849.2.1 bt849.2.2.1 bt849.2.2.2.1 bt849.2.2.2.2 x8).bind fun t855 => (if t855 = true then (if bt849.1 = 1 then ((rule_Total.f k bt849.2.1).bind fun t856 => (if t856 = true then ((rule_Total.f k bt849.2.2.2.1).bind fun t857 => (some t857)) else (some false))) else (some true)) else (some false))))
def honeycomblaw07_IsoGroup.f (k : Nat) (a0_0 : Int) (a0_1 : Int) (a0_2 : Int) (a0_3 : Int) (a0_4 : Int) (a1 : Int) (a2 : Int) : Option (Bool) := (XAwake07.f).bind fun t831 => (if t831 = true then ((XSome5.f a0_0 a0_1 a0_2 a0_3 a0_4).bind fun bt832 => ((iso_Keeps.f k bt832.1 bt832.2.1 bt832.2.2.1 bt832.2.2.2.1 bt832.2.2.2.2 (Int.tmod (Go.bits .and .i64 a1 255) 12)).bind fun t838 => (if t838 = true then ((iso_Keeps.f k bt832.1 bt832.2.1 bt832.2.2.1 bt832.2.2.2.1 bt832.2.2.2.2 (Int.tmod (Go.bits .and .i64 a2 255) 12)).bind fun t839 => (if t839 = true then ((axis_Operator_Then.f (Int.tmod (Go.bits .and .i64 a1 255) 12) (Int.tmod (Go.bits .and .i64 a2 255) 12)).bind fun t840 => ((iso_Keeps.f k bt832.1 bt832.2.1 bt832.2.2.1 bt832.2.2.2.1 bt832.2.2.2.2 t840).bind fun t841 => (if t841 = true then ((axis_Operator_Back.f (Int.tmod (Go.bits .and .i64 a1 255) 12)).bind fun t842 => ((iso_Keeps.f k bt832.1 bt832.2.1 bt832.2.2.1 bt832.2.2.2.1 bt832.2.2.2.2 t842).bind fun t843 => (if t843 = true then ((iso_Keeps.f k bt832.1 bt832.2.1 bt832.2.2.1 bt832.2.2.2.1 bt832.2.2.2.2 0).bind fun t844 => (honeycomblaw07_IsoGroup.j0 k (Int.tmod (Go.bits .and .i64 a1 255) 12) (!t844) bt832.1 bt832.2.1 bt832.2.2.1 bt832.2.2.2.1 bt832.2.2.2.2)) else (honeycomblaw07_IsoGroup.j0 k (Int.tmod (Go.bits .and .i64 a1 255) 12) true bt832.1 bt832.2.1 bt832.2.2.1 bt832.2.2.2.1 bt832.2.2.2.2)))) else (honeycomblaw07_IsoGroup.j0 k (Int.tmod (Go.bits .and .i64 a1 255) 12) true bt832.1 bt832.2.1 bt832.2.2.1 bt832.2.2.2.1 bt832.2.2.2.2)))) else ((axis_Operator_Back.f (Int.tmod (Go.bits .and .i64 a1 255) 12)).bind fun t845 => ((iso_Keeps.f k bt832.1 bt832.2.1 bt832.2.2.1 bt832.2.2.2.1 bt832.2.2.2.2 t845).bind fun t846 => (if t846 = true then ((iso_Keeps.f k bt832.1 bt832.2.1 bt832.2.2.1 bt832.2.2.2.1 bt832.2.2.2.2 0).bind fun t847 => (honeycomblaw07_IsoGroup.j0 k (Int.tmod (Go.bits .and .i64 a1 255) 12) (!t847) bt832.1 bt832.2.1 bt832.2.2.1 bt832.2.2.2.1 bt832.2.2.2.2)) else (honeycomblaw07_IsoGroup.j0 k (Int.tmod (Go.bits .and .i64 a1 255) 12) true bt832.1 bt832.2.1 bt832.2.2.1 bt832.2.2.2.1 bt832.2.2.2.2)))))) else ((iso_Keeps.f k bt832.1 bt832.2.1 bt832.2.2.1 bt832.2.2.2.1 bt832.2.2.2.2 0).bind fun t848 => (honeycomblaw07_IsoGroup.j0 k (Int.tmod (Go.bits .and .i64 a1 255) 12) (!t848) bt832.1 bt832.2.1 bt832.2.2.1 bt832.2.2.2.1 bt832.2.2.2.2))))) else (some false))
theorem honeycomblaw07_IsoGroup.mono_l : ∀ k, (∀ y0 y1 y2 y3 y4 y5 y6, LeO (honeycomblaw07_IsoGroup.j0 k y0 y1 y2 y3 y4 y5 y6) (honeycomblaw07_IsoGroup.j0 (k + 1) y0 y1 y2 y3 y4 y5 y6))
 | 0 => fun _ _ _ _ _ _ _ r h => by simp [honeycomblaw07_IsoGroup.j0] at h
 | k + 1 => by
  have ih0 := honeycomblaw07_IsoGroup.mono_l k
  ·
   intro y0 y1 y2 y3 y4 y5 y6
   unfold honeycomblaw07_IsoGroup.j0
   repeat' first
   | (with_reducible exact ih0 _ _ _ _ _ _ _)
   | (with_reducible exact honeycomblaw07_whole.mono _ _ _ _ _ _)
   | (with_reducible exact iso_Keeps.mono _ _ _ _ _ _ _)
   | (with_reducible exact rule_Total.mono _ _)
   | (with_reducible exact LeO.refl _)
   | (with_reducible exact LeO.none _)
   | (with_reducible refine LeO.ite ?_ ?_)
   | (with_reducible refine LeO.bind ?_ (fun _ => ?_))
   | exact ih0 _ _ _ _ _ _ _
   | exact honeycomblaw07_whole.mono _ _ _ _ _ _
   | exact iso_Keeps.mono _ _ _ _ _ _ _
   | exact rule_Total.mono _ _
   | exact LeO.none _
   | refine LeO.ite ?_ ?_
   | refine LeO.bind ?_ (fun _ => ?_)
theorem honeycomblaw07_IsoGroup.mono : ∀ a0 a1 a2 a3 a4 a5 a6 k, LeO (honeycomblaw07_IsoGroup.f k a0 a1 a2 a3 a4 a5 a6) (honeycomblaw07_IsoGroup.f (k + 1) a0 a1 a2 a3 a4 a5 a6) := by
 intro a0 a1 a2 a3 a4 a5 a6 k
 have ih0 := honeycomblaw07_IsoGroup.mono_l k
 unfold honeycomblaw07_IsoGroup.f
 repeat' first
   | (with_reducible exact ih0 _ _ _ _ _ _ _)
   | (with_reducible exact honeycomblaw07_whole.mono _ _ _ _ _ _)
   | (with_reducible exact iso_Keeps.mono _ _ _ _ _ _ _)
   | (with_reducible exact rule_Total.mono _ _)
   | (with_reducible exact LeO.refl _)
   | (with_reducible exact LeO.none _)
   | (with_reducible refine LeO.ite ?_ ?_)
   | (with_reducible refine LeO.bind ?_ (fun _ => ?_))
   | exact ih0 _ _ _ _ _ _ _
   | exact honeycomblaw07_whole.mono _ _ _ _ _ _
   | exact iso_Keeps.mono _ _ _ _ _ _ _
   | exact rule_Total.mono _ _
   | exact LeO.none _
   | refine LeO.ite ?_ ?_
   | refine LeO.bind ?_ (fun _ => ?_)
def honeycomblaw07_IsoGroup.T5 : Bool × List (List Nat × List Nat) := (true, [([], []), ([], []), ([0, 1], [0, 1]), ([2, 2], [2]), ([3], [3]), ([3], [3]), ([4, 5, 3, 3], [3, 4, 5]), ([6, 6, 3], [3, 6]), ([7], [7]), ([7], [7]), ([7], [7]), ([9, 10, 7, 7], [7, 9, 10]), ([8, 11, 11, 7], [7, 8, 11]), ([12, 7], [7, 12]), ([7, 13, 3], [3, 7, 13]), ([14, 12, 3], [3, 14]), ([15], [15]), ([15], [15]), ([17, 15, 15], [15, 17]), ([16, 18, 18, 15], [15, 16, 18]), ([19, 15], [15, 19]), ([15, 20, 3], [3, 15, 20]), ([3, 21], [3, 21]), ([22, 19], [22]), ([23], [23]), ([24, 23, 23], [23, 24]), ([25, 23], [23, 25]), ([23, 26], [23, 26])])
def honeycomblaw07_IsoGroup.B5 : List Nat := [0, 0, 3, 7, 15, 15, 63, 127, 255, 255, 255, 1791, 4095, 8191, 16383, 32767, 65535, 65535, 196607, 524287, 1048575, 2097151, 4194303, 8388607, 16777215, 33554431, 67108863, 134217727]
theorem honeycomblaw07_IsoGroup.tab5 : rtab .any (opsOf Tryd.f10 5) = honeycomblaw07_IsoGroup.T5 := by kernel_rfl
theorem honeycomblaw07_IsoGroup.bits5 : waitsOk honeycomblaw07_IsoGroup.T5.2 honeycomblaw07_IsoGroup.B5 = true := by kernel_rfl
set_option maxHeartbeats 8000000 in
set_option maxRecDepth 100000 in
theorem honeycomblaw07_IsoGroup.calls (k : Nat) (a0_0 : Int) (a0_1 : Int) (a0_2 : Int) (a0_3 : Int) (a0_4 : Int) (a1 : Int) (a2 : Int) (r : Bool) (w : World) (hGSix : Six w) (h : honeycomblaw07_IsoGroup.f k a0_0 a0_1 a0_2 a0_3 a0_4 a1 a2 = some r) (hr_ : r = true) :
  Calls Tryd.prog 10 #[.agg #[.int .i64 a0_0, .int .u64 a0_1, .int .u64 a0_2, .int .u64 a0_3, .int .u64 a0_4], .int .i64 a1, .int .i64 a2] w fun e w' => e = .returned (.bool r) ∧ Below w.heap.size w w' := by
 have Hr_ := Aside0.mk hr_
 clear hr_
 have hu25 := Tryd.underlying25
 have hu29 := Tryd.underlying29
 have HB := Aside0.mk (Below.refl w.heap.size w)
 have HGSix := Aside0.mk hGSix
 clear hGSix
 have H : ((XAwake07.f).bind fun t831 => (if t831 = true then ((XSome5.f a0_0 a0_1 a0_2 a0_3 a0_4).bind fun bt832 => ((iso_Keeps.f k bt832.1 bt832.2.1 bt832.2.2.1 bt832.2.2.2.1 bt832.2.2.2.2 (Int.tmod (Go.bits .and .i64 a1 255) 12)).bind fun t838 => (if t838 = true then ((iso_Keeps.f k bt832.1 bt832.2.1 bt832.2.2.1 bt832.2.2.2.1 bt832.2.2.2.2 (Int.tmod (Go.bits .and .i64 a2 255) 12)).bind fun t839 => (if t839 = true then ((axis_Operator_Then.f (Int.tmod (Go.bits .and .i64 a1 255) 12) (Int.tmod (Go.bits .and .i64 a2 255) 12)).bind fun t840 => ((iso_Keeps.f k bt832.1 bt832.2.1 bt832.2.2.1 bt832.2.2.2.1 bt832.2.2.2.2 t840).bind fun t841 => (if t841 = true then ((axis_Operator_Back.f (Int.tmod (Go.bits .and .i64 a1 255) 12)).bind fun t842 => ((iso_Keeps.f k bt832.1 bt832.2.1 bt832.2.2.1 bt832.2.2.2.1 bt832.2.2.2.2 t842).bind fun t843 => (if t843 = true then ((iso_Keeps.f k bt832.1 bt832.2.1 bt832.2.2.1 bt832.2.2.2.1 bt832.2.2.2.2 0).bind fun t844 => (honeycomblaw07_IsoGroup.j0 k (Int.tmod (Go.bits .and .i64 a1 255) 12) (!t844) bt832.1 bt832.2.1 bt832.2.2.1 bt832.2.2.2.1 bt832.2.2.2.2)) else (honeycomblaw07_IsoGroup.j0 k (Int.tmod (Go.bits .and .i64 a1 255) 12) true bt832.1 bt832.2.1 bt832.2.2.1 bt832.2.2.2.1 bt832.2.2.2.2)))) else (honeycomblaw07_IsoGroup.j0 k (Int.tmod (Go.bits .and .i64 a1 255) 12) true bt832.1 bt832.2.1 bt832.2.2.1 bt832.2.2.2.1 bt832.2.2.2.2)))) else ((axis_Operator_Back.f (Int.tmod (Go.bits .and .i64 a1 255) 12)).bind fun t845 => ((iso_Keeps.f k bt832.1 bt832.2.1 bt832.2.2.1 bt832.2.2.2.1 bt832.2.2.2.2 t845).bind fun t846 => (if t846 = true then ((iso_Keeps.f k bt832.1 bt832.2.1 bt832.2.2.1 bt832.2.2.2.1 bt832.2.2.2.2 0).bind fun t847 => (honeycomblaw07_IsoGroup.j0 k (Int.tmod (Go.bits .and .i64 a1 255) 12) (!t847) bt832.1 bt832.2.1 bt832.2.2.1 bt832.2.2.2.1 bt832.2.2.2.2)) else (honeycomblaw07_IsoGroup.j0 k (Int.tmod (Go.bits .and .i64 a1 255) 12) true bt832.1 bt832.2.1 bt832.2.2.1 bt832.2.2.2.1 bt832.2.2.2.2)))))) else ((iso_Keeps.f k bt832.1 bt832.2.1 bt832.2.2.1 bt832.2.2.2.1 bt832.2.2.2.2 0).bind fun t848 => (honeycomblaw07_IsoGroup.j0 k (Int.tmod (Go.bits .and .i64 a1 255) 12) (!t848) bt832.1 bt832.2.1 bt832.2.2.1 bt832.2.2.2.1 bt832.2.2.2.2))))) else (some false))) = some r := h
 clear h
 replace H := Option.bind_eq_some_iff.mp H
 obtain ⟨t831, A40, H⟩ := H
 replace H : (if t831 = true then ((XSome5.f a0_0 a0_1 a0_2 a0_3 a0_4).bind fun bt832 => ((iso_Keeps.f k bt832.1 bt832.2.1 bt832.2.2.1 bt832.2.2.2.1 bt832.2.2.2.2 (Int.tmod (Go.bits .and .i64 a1 255) 12)).bind fun t838 => (if t838 = true then ((iso_Keeps.f k bt832.1 bt832.2.1 bt832.2.2.1 bt832.2.2.2.1 bt832.2.2.2.2 (Int.tmod (Go.bits .and .i64 a2 255) 12)).bind fun t839 => (if t839 = true then ((axis_Operator_Then.f (Int.tmod (Go.bits .and .i64 a1 255) 12) (Int.tmod (Go.bits .and .i64 a2 255) 12)).bind fun t840 => ((iso_Keeps.f k bt832.1 bt832.2.1 bt832.2.2.1 bt832.2.2.2.1 bt832.2.2.2.2 t840).bind fun t841 => (if t841 = true then ((axis_Operator_Back.f (Int.tmod (Go.bits .and .i64 a1 255) 12)).bind fun t842 => ((iso_Keeps.f k bt832.1 bt832.2.1 bt832.2.2.1 bt832.2.2.2.1 bt832.2.2.2.2 t842).bind fun t843 => (if t843 = true then ((iso_Keeps.f k bt832.1 bt832.2.1 bt832.2.2.1 bt832.2.2.2.1 bt832.2.2.2.2 0).bind fun t844 => (honeycomblaw07_IsoGroup.j0 k (Int.tmod (Go.bits .and .i64 a1 255) 12) (!t844) bt832.1 bt832.2.1 bt832.2.2.1 bt832.2.2.2.1 bt832.2.2.2.2)) else (honeycomblaw07_IsoGroup.j0 k (Int.tmod (Go.bits .and .i64 a1 255) 12) true bt832.1 bt832.2.1 bt832.2.2.1 bt832.2.2.2.1 bt832.2.2.2.2)))) else (honeycomblaw07_IsoGroup.j0 k (Int.tmod (Go.bits .and .i64 a1 255) 12) true bt832.1 bt832.2.1 bt832.2.2.1 bt832.2.2.2.1 bt832.2.2.2.2)))) else ((axis_Operator_Back.f (Int.tmod (Go.bits .and .i64 a1 255) 12)).bind fun t845 => ((iso_Keeps.f k bt832.1 bt832.2.1 bt832.2.2.1 bt832.2.2.2.1 bt832.2.2.2.2 t845).bind fun t846 => (if t846 = true then ((iso_Keeps.f k bt832.1 bt832.2.1 bt832.2.2.1 bt832.2.2.2.1 bt832.2.2.2.2 0).bind fun t847 => (honeycomblaw07_IsoGroup.j0 k (Int.tmod (Go.bits .and .i64 a1 255) 12) (!t847) bt832.1 bt832.2.1 bt832.2.2.1 bt832.2.2.2.1 bt832.2.2.2.2)) else (honeycomblaw07_IsoGroup.j0 k (Int.tmod (Go.bits .and .i64 a1 255) 12) true bt832.1 bt832.2.1 bt832.2.2.1 bt832.2.2.2.1 bt832.2.2.2.2)))))) else ((iso_Keeps.f k bt832.1 bt832.2.1 bt832.2.2.1 bt832.2.2.2.1 bt832.2.2.2.2 0).bind fun t848 => (honeycomblaw07_IsoGroup.j0 k (Int.tmod (Go.bits .and .i64 a1 255) 12) (!t848) bt832.1 bt832.2.1 bt832.2.2.1 bt832.2.2.2.1 bt832.2.2.2.2))))) else (some false)) = some r := H
 have A4 := Aside0.mk A40
 clear A40
 by_cases c5 : t831 = true
 ·
  subst c5
  have H1 : ((XSome5.f a0_0 a0_1 a0_2 a0_3 a0_4).bind fun bt832 => ((iso_Keeps.f k bt832.1 bt832.2.1 bt832.2.2.1 bt832.2.2.2.1 bt832.2.2.2.2 (Int.tmod (Go.bits .and .i64 a1 255) 12)).bind fun t838 => (if t838 = true then ((iso_Keeps.f k bt832.1 bt832.2.1 bt832.2.2.1 bt832.2.2.2.1 bt832.2.2.2.2 (Int.tmod (Go.bits .and .i64 a2 255) 12)).bind fun t839 => (if t839 = true then ((axis_Operator_Then.f (Int.tmod (Go.bits .and .i64 a1 255) 12) (Int.tmod (Go.bits .and .i64 a2 255) 12)).bind fun t840 => ((iso_Keeps.f k bt832.1 bt832.2.1 bt832.2.2.1 bt832.2.2.2.1 bt832.2.2.2.2 t840).bind fun t841 => (if t841 = true then ((axis_Operator_Back.f (Int.tmod (Go.bits .and .i64 a1 255) 12)).bind fun t842 => ((iso_Keeps.f k bt832.1 bt832.2.1 bt832.2.2.1 bt832.2.2.2.1 bt832.2.2.2.2 t842).bind fun t843 => (if t843 = true then ((iso_Keeps.f k bt832.1 bt832.2.1 bt832.2.2.1 bt832.2.2.2.1 bt832.2.2.2.2 0).bind fun t844 => (honeycomblaw07_IsoGroup.j0 k (Int.tmod (Go.bits .and .i64 a1 255) 12) (!t844) bt832.1 bt832.2.1 bt832.2.2.1 bt832.2.2.2.1 bt832.2.2.2.2)) else (honeycomblaw07_IsoGroup.j0 k (Int.tmod (Go.bits .and .i64 a1 255) 12) true bt832.1 bt832.2.1 bt832.2.2.1 bt832.2.2.2.1 bt832.2.2.2.2)))) else (honeycomblaw07_IsoGroup.j0 k (Int.tmod (Go.bits .and .i64 a1 255) 12) true bt832.1 bt832.2.1 bt832.2.2.1 bt832.2.2.2.1 bt832.2.2.2.2)))) else ((axis_Operator_Back.f (Int.tmod (Go.bits .and .i64 a1 255) 12)).bind fun t845 => ((iso_Keeps.f k bt832.1 bt832.2.1 bt832.2.2.1 bt832.2.2.2.1 bt832.2.2.2.2 t845).bind fun t846 => (if t846 = true then ((iso_Keeps.f k bt832.1 bt832.2.1 bt832.2.2.1 bt832.2.2.2.1 bt832.2.2.2.2 0).bind fun t847 => (honeycomblaw07_IsoGroup.j0 k (Int.tmod (Go.bits .and .i64 a1 255) 12) (!t847) bt832.1 bt832.2.1 bt832.2.2.1 bt832.2.2.2.1 bt832.2.2.2.2)) else (honeycomblaw07_IsoGroup.j0 k (Int.tmod (Go.bits .and .i64 a1 255) 12) true bt832.1 bt832.2.1 bt832.2.2.1 bt832.2.2.2.1 bt832.2.2.2.2)))))) else ((iso_Keeps.f k bt832.1 bt832.2.1 bt832.2.2.1 bt832.2.2.2.1 bt832.2.2.2.2 0).bind fun t848 => (honeycomblaw07_IsoGroup.j0 k (Int.tmod (Go.bits .and .i64 a1 255) 12) (!t848) bt832.1 bt832.2.1 bt832.2.2.1 bt832.2.2.2.1 bt832.2.2.2.2))))) = some r := by rw [if_pos rfl] at H; exact H
  clear H
  have H := H1
  clear H1
  replace H := Option.bind_eq_some_iff.mp H
  obtain ⟨⟨t832, t833, t834, t835, t836⟩, A60, H⟩ := H
  replace H : ((iso_Keeps.f k t832 t833 t834 t835 t836 (Int.tmod (Go.bits .and .i64 a1 255) 12)).bind fun t838 => (if t838 = true then ((iso_Keeps.f k t832 t833 t834 t835 t836 (Int.tmod (Go.bits .and .i64 a2 255) 12)).bind fun t839 => (if t839 = true then ((axis_Operator_Then.f (Int.tmod (Go.bits .and .i64 a1 255) 12) (Int.tmod (Go.bits .and .i64 a2 255) 12)).bind fun t840 => ((iso_Keeps.f k t832 t833 t834 t835 t836 t840).bind fun t841 => (if t841 = true then ((axis_Operator_Back.f (Int.tmod (Go.bits .and .i64 a1 255) 12)).bind fun t842 => ((iso_Keeps.f k t832 t833 t834 t835 t836 t842).bind fun t843 => (if t843 = true then ((iso_Keeps.f k t832 t833 t834 t835 t836 0).bind fun t844 => (honeycomblaw07_IsoGroup.j0 k (Int.tmod (Go.bits .and .i64 a1 255) 12) (!t844) t832 t833 t834 t835 t836)) else (honeycomblaw07_IsoGroup.j0 k (Int.tmod (Go.bits .and .i64 a1 255) 12) true t832 t833 t834 t835 t836)))) else (honeycomblaw07_IsoGroup.j0 k (Int.tmod (Go.bits .and .i64 a1 255) 12) true t832 t833 t834 t835 t836)))) else ((axis_Operator_Back.f (Int.tmod (Go.bits .and .i64 a1 255) 12)).bind fun t845 => ((iso_Keeps.f k t832 t833 t834 t835 t836 t845).bind fun t846 => (if t846 = true then ((iso_Keeps.f k t832 t833 t834 t835 t836 0).bind fun t847 => (honeycomblaw07_IsoGroup.j0 k (Int.tmod (Go.bits .and .i64 a1 255) 12) (!t847) t832 t833 t834 t835 t836)) else (honeycomblaw07_IsoGroup.j0 k (Int.tmod (Go.bits .and .i64 a1 255) 12) true t832 t833 t834 t835 t836)))))) else ((iso_Keeps.f k t832 t833 t834 t835 t836 0).bind fun t848 => (honeycomblaw07_IsoGroup.j0 k (Int.tmod (Go.bits .and .i64 a1 255) 12) (!t848) t832 t833 t834 t835 t836)))) = some r := H
  have A6 := Aside0.mk A60
  clear A60
  have HC7 := Aside0.mk H
  clear H
  go_enter Tryd.func10, Tryd.ntmps10
  go_upto_region 5 with (first | ((with_reducible refine gate_dst (N := 3) rfl ?_); refine box_event ?hg (N := 3) ?hd (cs := #[.int .i64 a0_0, .int .u64 a0_1, .int .u64 a0_2, .int .u64 a0_3, .int .u64 a0_4]) (t := 25) ?hr ?_; (case hd => rfl); (case hg => rfl); (case hr => first | (go_simp; done) | (go_simp; rfl)); intro gb830 hg w8 hbox hb; have n0_ := Aside0.mk (below_step (by repeat (first | (with_reducible first | exact HB.out | apply ba_ | apply bn_ | apply bd_) | exact HB.out)) hb); have n1_ := Aside0.mk (hbox); have n2_ := Aside0.mk ((by rw [hg]; exact (below_size (by repeat (first | (with_reducible first | exact HB.out | apply ba_ | apply bn_ | apply bd_) | exact HB.out))) : w.heap.size ≤ gb830)); have n3_ := Aside0.mk ((by rw [hg]; exact (below_size (by repeat (first | (with_reducible first | exact HB.out | apply ba_ | apply bn_ | apply bd_) | exact HB.out))) : w.heap.size ≤ gb830)); clear HB; have HB := n0_; have BK830 := n1_; have GW830 := n2_; have GE830 := n3_; clear n0_ n1_ n2_ n3_; clear hb hbox hg) | ((with_reducible refine gate_callee (f := 13) rfl ?_); refine goesL_ (some 11) rfl rfl Tryd.func13 (by kernel_rfl) rfl #[] rfl (by (try simp only [List.map_toArray, List.map_cons, List.map_nil]); first | done | rfl | (simp only [List.length_drop, List.length_take]; rfl)) ?_; (with_reducible refine (XAwake07.calls  true _ ?side1 A4.out).mono ?_); (case side1 => exact HGSix.out.below (by repeat (first | (with_reducible first | exact HB.out | apply ba_ | apply bn_ | apply bd_ | refine below_set ?_ GE830.out) | exact HB.out))); rintro e w9 ⟨rfl, hb⟩; refine ⟨_, rfl, ?_⟩; have n0_ := Aside0.mk (blk_below (g := gb830) (o := .cells #[.int .i64 a0_0, .int .u64 a0_1, .int .u64 a0_2, .int .u64 a0_3, .int .u64 a0_4] 25 (0, 0)) (by (with_reducible repeat (first | apply bN_ | apply bD_ | apply bA_)); exact BK830.out) hb); have n1_ := Aside0.mk (below_step (by repeat (first | (with_reducible first | exact HB.out | apply ba_ | apply bn_ | apply bd_ | refine below_set ?_ GE830.out) | exact HB.out)) hb); clear BK830; clear HB; have BK830 := n0_; have HB := n1_; clear n0_ n1_; (try clear hb); (try clear hb2); (try clear hk); (try clear hi); have hcz10_0 : w9.cell? ⟨gb830, 0, none⟩ = some (.int .i64 a0_0) := (blk_cell BK830.out 0).trans rfl; have hcz10_1 : w9.cell? ⟨gb830, 1, none⟩ = some (.int .u64 a0_1) := (blk_cell BK830.out 1).trans rfl; have hcz10_2 : w9.cell? ⟨gb830, 2, none⟩ = some (.int .u64 a0_2) := (blk_cell BK830.out 2).trans rfl; have hcz10_3 : w9.cell? ⟨gb830, 3, none⟩ = some (.int .u64 a0_3) := (blk_cell BK830.out 3).trans rfl; have hcz10_4 : w9.cell? ⟨gb830, 4, none⟩ = some (.int .u64 a0_4) := (blk_cell BK830.out 4).trans rfl; have hfz10_0 := blk_frozen BK830.out 0; have hfz10_1 := blk_frozen BK830.out 1; have hfz10_2 := blk_frozen BK830.out 2; have hfz10_3 := blk_frozen BK830.out 3; have hfz10_4 := blk_frozen BK830.out 4) | ((with_reducible refine gate_callee (f := 14) rfl ?_); refine goesL_ (some 14) rfl rfl Tryd.func14 (by kernel_rfl) rfl #[.agg #[.int .i64 a0_0, .int .u64 a0_1, .int .u64 a0_2, .int .u64 a0_3, .int .u64 a0_4]] rfl (by (try simp only [List.map_toArray, List.map_cons, List.map_nil]); first | done | rfl | (simp only [List.length_drop, List.length_take]; rfl)) ?_; (with_reducible refine (XSome5.calls a0_0 a0_1 a0_2 a0_3 a0_4 t832 t833 t834 t835 t836 _ A6.out).mono ?_); rintro e w11 ⟨rfl, hb⟩; refine ⟨_, rfl, ?_⟩; have n0_ := Aside0.mk (blk_below (g := gb830) (o := .cells #[.int .i64 a0_0, .int .u64 a0_1, .int .u64 a0_2, .int .u64 a0_3, .int .u64 a0_4] 25 (0, 0)) (by (with_reducible repeat (first | apply bN_ | apply bD_ | apply bA_)); exact BK830.out) hb); have n1_ := Aside0.mk (below_step (by repeat (first | (with_reducible first | exact HB.out | apply ba_ | apply bn_ | apply bd_ | refine below_set ?_ GE830.out) | exact HB.out)) hb); clear BK830; clear HB; have BK830 := n0_; have HB := n1_; clear n0_ n1_; (try clear hb); (try clear hb2); (try clear hk); (try clear hi)) | ((with_reducible refine gate_dst (N := 7) rfl ?_); refine box_event ?hg (N := 7) ?hd (cs := #[.int .i64 0, .int .u64 0, .int .u64 0, .int .u64 0, .int .u64 0]) (t := 29) ?hr ?_; (case hd => rfl); (case hg => rfl); (case hr => first | (go_simp; done) | (go_simp; rfl)); intro gb837 hg w12 hbox hb; have n0_ := Aside0.mk (blk_below (g := gb830) (o := .cells #[.int .i64 a0_0, .int .u64 a0_1, .int .u64 a0_2, .int .u64 a0_3, .int .u64 a0_4] 25 (0, 0)) (by (with_reducible repeat (first | apply bN_ | apply bD_ | apply bA_)); exact BK830.out) hb); have n1_ := Aside0.mk (below_step (by repeat (first | (with_reducible first | exact HB.out | apply ba_ | apply bn_ | apply bd_ | refine below_set ?_ GE830.out) | exact HB.out)) hb); have n2_ := Aside0.mk (hbox); have n3_ := Aside0.mk ((by rw [hg]; exact (below_size (by repeat (first | (with_reducible first | exact HB.out | apply ba_ | apply bn_ | apply bd_ | refine below_set ?_ GE830.out) | exact HB.out))) : w.heap.size ≤ gb837)); have n4_ := Aside0.mk ((by rw [hg]; exact (below_size (by repeat (first | (with_reducible first | exact HB.out | apply ba_ | apply bn_ | apply bd_ | refine below_set ?_ GE830.out) | exact HB.out))) : w.heap.size ≤ gb837)); have n5_ := Aside0.mk ((by rw [hg]; exact Nat.ne_of_lt (blk_lt (g := gb830) (o := .cells #[.int .i64 a0_0, .int .u64 a0_1, .int .u64 a0_2, .int .u64 a0_3, .int .u64 a0_4] 25 (0, 0)) (by (with_reducible repeat (first | apply bN_ | apply bD_ | apply bA_)); exact BK830.out)) : gb830 ≠ gb837)); have n6_ := Aside0.mk ((by rw [hg]; exact Nat.ne_of_gt (blk_lt (g := gb830) (o := .cells #[.int .i64 a0_0, .int .u64 a0_1, .int .u64 a0_2, .int .u64 a0_3, .int .u64 a0_4] 25 (0, 0)) (by (with_reducible repeat (first | apply bN_ | apply bD_ | apply bA_)); exact BK830.out)) : gb837 ≠ gb830)); clear BK830; clear HB; have BK830 := n0_; have HB := n1_; have BK837 := n2_; have GW837 := n3_; have GE837 := n4_; have NB830_837 := n5_; have NB837_830 := n6_; clear n0_ n1_ n2_ n3_ n4_ n5_ n6_; clear hb hbox hg; have hnb13 := NB837_830.out; have hnc13 := NB830_837.out; have hcz14_0 : w12.cell? ⟨gb837, 0, none⟩ = some (.int .i64 0) := (blk_cell BK837.out 0).trans rfl; have hcz14_1 : w12.cell? ⟨gb837, 1, none⟩ = some (.int .u64 0) := (blk_cell BK837.out 1).trans rfl; have hcz14_2 : w12.cell? ⟨gb837, 2, none⟩ = some (.int .u64 0) := (blk_cell BK837.out 2).trans rfl; have hcz14_3 : w12.cell? ⟨gb837, 3, none⟩ = some (.int .u64 0) := (blk_cell BK837.out 3).trans rfl; have hcz14_4 : w12.cell? ⟨gb837, 4, none⟩ = some (.int .u64 0) := (blk_cell BK837.out 4).trans rfl; have hfz14_0 := blk_frozen BK837.out 0; have hfz14_1 := blk_frozen BK837.out 1; have hfz14_2 := blk_frozen BK837.out 2; have hfz14_3 := blk_frozen BK837.out 3; have hfz14_4 := blk_frozen BK837.out 4))
  (try simp only [Act.put, List.setIfInBounds_toArray, List.set_cons_zero, List.set_cons_succ])
  go_cut [48] (fun v48 wc => ∃ (kq : Nat) (x48_6 : Bool), v48 = .bool x48_6 ∧ Aside0 (honeycomblaw07_IsoGroup.j0 kq (Int.tmod (Go.bits .and .i64 a1 255) 12) x48_6 t832 t833 t834 t835 t836 = some r) ∧ Aside0 (kq ≤ k) ∧ Aside0 (wc.heap[gb830]? = some (.cells #[.int .i64 a0_0, .int .u64 a0_1, .int .u64 a0_2, .int .u64 a0_3, .int .u64 a0_4] 25 (0, 0))) ∧ Aside0 (wc.heap[gb837]? = some (.cells #[.int .i64 t832, .int .u64 t833, .int .u64 t834, .int .u64 t835, .int .u64 t836] 29 (0, 0))) ∧ Aside0 (Below w.heap.size w wc))
  case first =>
   have H := HC7.out
   clear HC7
   replace H := Option.bind_eq_some_iff.mp H
   obtain ⟨t838, A150, H⟩ := H
   replace H : (if t838 = true then ((iso_Keeps.f k t832 t833 t834 t835 t836 (Int.tmod (Go.bits .and .i64 a2 255) 12)).bind fun t839 => (if t839 = true then ((axis_Operator_Then.f (Int.tmod (Go.bits .and .i64 a1 255) 12) (Int.tmod (Go.bits .and .i64 a2 255) 12)).bind fun t840 => ((iso_Keeps.f k t832 t833 t834 t835 t836 t840).bind fun t841 => (if t841 = true then ((axis_Operator_Back.f (Int.tmod (Go.bits .and .i64 a1 255) 12)).bind fun t842 => ((iso_Keeps.f k t832 t833 t834 t835 t836 t842).bind fun t843 => (if t843 = true then ((iso_Keeps.f k t832 t833 t834 t835 t836 0).bind fun t844 => (honeycomblaw07_IsoGroup.j0 k (Int.tmod (Go.bits .and .i64 a1 255) 12) (!t844) t832 t833 t834 t835 t836)) else (honeycomblaw07_IsoGroup.j0 k (Int.tmod (Go.bits .and .i64 a1 255) 12) true t832 t833 t834 t835 t836)))) else (honeycomblaw07_IsoGroup.j0 k (Int.tmod (Go.bits .and .i64 a1 255) 12) true t832 t833 t834 t835 t836)))) else ((axis_Operator_Back.f (Int.tmod (Go.bits .and .i64 a1 255) 12)).bind fun t845 => ((iso_Keeps.f k t832 t833 t834 t835 t836 t845).bind fun t846 => (if t846 = true then ((iso_Keeps.f k t832 t833 t834 t835 t836 0).bind fun t847 => (honeycomblaw07_IsoGroup.j0 k (Int.tmod (Go.bits .and .i64 a1 255) 12) (!t847) t832 t833 t834 t835 t836)) else (honeycomblaw07_IsoGroup.j0 k (Int.tmod (Go.bits .and .i64 a1 255) 12) true t832 t833 t834 t835 t836)))))) else ((iso_Keeps.f k t832 t833 t834 t835 t836 0).bind fun t848 => (honeycomblaw07_IsoGroup.j0 k (Int.tmod (Go.bits .and .i64 a1 255) 12) (!t848) t832 t833 t834 t835 t836))) = some r := H
   have A15 := Aside0.mk A150
   clear A150
   by_cases c16 : t838 = true
   ·
    subst c16
    have H1 : ((iso_Keeps.f k t832 t833 t834 t835 t836 (Int.tmod (Go.bits .and .i64 a2 255) 12)).bind fun t839 => (if t839 = true then ((axis_Operator_Then.f (Int.tmod (Go.bits .and .i64 a1 255) 12) (Int.tmod (Go.bits .and .i64 a2 255) 12)).bind fun t840 => ((iso_Keeps.f k t832 t833 t834 t835 t836 t840).bind fun t841 => (if t841 = true then ((axis_Operator_Back.f (Int.tmod (Go.bits .and .i64 a1 255) 12)).bind fun t842 => ((iso_Keeps.f k t832 t833 t834 t835 t836 t842).bind fun t843 => (if t843 = true then ((iso_Keeps.f k t832 t833 t834 t835 t836 0).bind fun t844 => (honeycomblaw07_IsoGroup.j0 k (Int.tmod (Go.bits .and .i64 a1 255) 12) (!t844) t832 t833 t834 t835 t836)) else (honeycomblaw07_IsoGroup.j0 k (Int.tmod (Go.bits .and .i64 a1 255) 12) true t832 t833 t834 t835 t836)))) else (honeycomblaw07_IsoGroup.j0 k (Int.tmod (Go.bits .and .i64 a1 255) 12) true t832 t833 t834 t835 t836)))) else ((axis_Operator_Back.f (Int.tmod (Go.bits .and .i64 a1 255) 12)).bind fun t845 => ((iso_Keeps.f k t832 t833 t834 t835 t836 t845).bind fun t846 => (if t846 = true then ((iso_Keeps.f k t832 t833 t834 t835 t836 0).bind fun t847 => (honeycomblaw07_IsoGroup.j0 k (Int.tmod (Go.bits .and .i64 a1 255) 12) (!t847) t832 t833 t834 t835 t836)) else (honeycomblaw07_IsoGroup.j0 k (Int.tmod (Go.bits .and .i64 a1 255) 12) true t832 t833 t834 t835 t836)))))) = some r := by rw [if_pos rfl] at H; exact H
    clear H
    have H := H1
    clear H1
    replace H := Option.bind_eq_some_iff.mp H
    obtain ⟨t839, A170, H⟩ := H
    replace H : (if t839 = true then ((axis_Operator_Then.f (Int.tmod (Go.bits .and .i64 a1 255) 12) (Int.tmod (Go.bits .and .i64 a2 255) 12)).bind fun t840 => ((iso_Keeps.f k t832 t833 t834 t835 t836 t840).bind fun t841 => (if t841 = true then ((axis_Operator_Back.f (Int.tmod (Go.bits .and .i64 a1 255) 12)).bind fun t842 => ((iso_Keeps.f k t832 t833 t834 t835 t836 t842).bind fun t843 => (if t843 = true then ((iso_Keeps.f k t832 t833 t834 t835 t836 0).bind fun t844 => (honeycomblaw07_IsoGroup.j0 k (Int.tmod (Go.bits .and .i64 a1 255) 12) (!t844) t832 t833 t834 t835 t836)) else (honeycomblaw07_IsoGroup.j0 k (Int.tmod (Go.bits .and .i64 a1 255) 12) true t832 t833 t834 t835 t836)))) else (honeycomblaw07_IsoGroup.j0 k (Int.tmod (Go.bits .and .i64 a1 255) 12) true t832 t833 t834 t835 t836)))) else ((axis_Operator_Back.f (Int.tmod (Go.bits .and .i64 a1 255) 12)).bind fun t845 => ((iso_Keeps.f k t832 t833 t834 t835 t836 t845).bind fun t846 => (if t846 = true then ((iso_Keeps.f k t832 t833 t834 t835 t836 0).bind fun t847 => (honeycomblaw07_IsoGroup.j0 k (Int.tmod (Go.bits .and .i64 a1 255) 12) (!t847) t832 t833 t834 t835 t836)) else (honeycomblaw07_IsoGroup.j0 k (Int.tmod (Go.bits .and .i64 a1 255) 12) true t832 t833 t834 t835 t836))))) = some r := H
    have A17 := Aside0.mk A170
    clear A170
    by_cases c18 : t839 = true
    ·
     subst c18
     have H1 : ((axis_Operator_Then.f (Int.tmod (Go.bits .and .i64 a1 255) 12) (Int.tmod (Go.bits .and .i64 a2 255) 12)).bind fun t840 => ((iso_Keeps.f k t832 t833 t834 t835 t836 t840).bind fun t841 => (if t841 = true then ((axis_Operator_Back.f (Int.tmod (Go.bits .and .i64 a1 255) 12)).bind fun t842 => ((iso_Keeps.f k t832 t833 t834 t835 t836 t842).bind fun t843 => (if t843 = true then ((iso_Keeps.f k t832 t833 t834 t835 t836 0).bind fun t844 => (honeycomblaw07_IsoGroup.j0 k (Int.tmod (Go.bits .and .i64 a1 255) 12) (!t844) t832 t833 t834 t835 t836)) else (honeycomblaw07_IsoGroup.j0 k (Int.tmod (Go.bits .and .i64 a1 255) 12) true t832 t833 t834 t835 t836)))) else (honeycomblaw07_IsoGroup.j0 k (Int.tmod (Go.bits .and .i64 a1 255) 12) true t832 t833 t834 t835 t836)))) = some r := by rw [if_pos rfl] at H; exact H
     clear H
     have H := H1
     clear H1
     replace H := Option.bind_eq_some_iff.mp H
     obtain ⟨t840, A190, H⟩ := H
     replace H : ((iso_Keeps.f k t832 t833 t834 t835 t836 t840).bind fun t841 => (if t841 = true then ((axis_Operator_Back.f (Int.tmod (Go.bits .and .i64 a1 255) 12)).bind fun t842 => ((iso_Keeps.f k t832 t833 t834 t835 t836 t842).bind fun t843 => (if t843 = true then ((iso_Keeps.f k t832 t833 t834 t835 t836 0).bind fun t844 => (honeycomblaw07_IsoGroup.j0 k (Int.tmod (Go.bits .and .i64 a1 255) 12) (!t844) t832 t833 t834 t835 t836)) else (honeycomblaw07_IsoGroup.j0 k (Int.tmod (Go.bits .and .i64 a1 255) 12) true t832 t833 t834 t835 t836)))) else (honeycomblaw07_IsoGroup.j0 k (Int.tmod (Go.bits .and .i64 a1 255) 12) true t832 t833 t834 t835 t836))) = some r := H
     have A19 := Aside0.mk A190
     clear A190
     replace H := Option.bind_eq_some_iff.mp H
     obtain ⟨t841, A200, H⟩ := H
     replace H : (if t841 = true then ((axis_Operator_Back.f (Int.tmod (Go.bits .and .i64 a1 255) 12)).bind fun t842 => ((iso_Keeps.f k t832 t833 t834 t835 t836 t842).bind fun t843 => (if t843 = true then ((iso_Keeps.f k t832 t833 t834 t835 t836 0).bind fun t844 => (honeycomblaw07_IsoGroup.j0 k (Int.tmod (Go.bits .and .i64 a1 255) 12) (!t844) t832 t833 t834 t835 t836)) else (honeycomblaw07_IsoGroup.j0 k (Int.tmod (Go.bits .and .i64 a1 255) 12) true t832 t833 t834 t835 t836)))) else (honeycomblaw07_IsoGroup.j0 k (Int.tmod (Go.bits .and .i64 a1 255) 12) true t832 t833 t834 t835 t836)) = some r := H
     have A20 := Aside0.mk A200
     clear A200
     by_cases c21 : t841 = true
     ·
      subst c21
      have H1 : ((axis_Operator_Back.f (Int.tmod (Go.bits .and .i64 a1 255) 12)).bind fun t842 => ((iso_Keeps.f k t832 t833 t834 t835 t836 t842).bind fun t843 => (if t843 = true then ((iso_Keeps.f k t832 t833 t834 t835 t836 0).bind fun t844 => (honeycomblaw07_IsoGroup.j0 k (Int.tmod (Go.bits .and .i64 a1 255) 12) (!t844) t832 t833 t834 t835 t836)) else (honeycomblaw07_IsoGroup.j0 k (Int.tmod (Go.bits .and .i64 a1 255) 12) true t832 t833 t834 t835 t836)))) = some r := by rw [if_pos rfl] at H; exact H
      clear H
      have H := H1
      clear H1
      replace H := Option.bind_eq_some_iff.mp H
      obtain ⟨t842, A220, H⟩ := H
      replace H : ((iso_Keeps.f k t832 t833 t834 t835 t836 t842).bind fun t843 => (if t843 = true then ((iso_Keeps.f k t832 t833 t834 t835 t836 0).bind fun t844 => (honeycomblaw07_IsoGroup.j0 k (Int.tmod (Go.bits .and .i64 a1 255) 12) (!t844) t832 t833 t834 t835 t836)) else (honeycomblaw07_IsoGroup.j0 k (Int.tmod (Go.bits .and .i64 a1 255) 12) true t832 t833 t834 t835 t836))) = some r := H
      have A22 := Aside0.mk A220
      clear A220
      replace H := Option.bind_eq_some_iff.mp H
      obtain ⟨t843, A230, H⟩ := H
      replace H : (if t843 = true then ((iso_Keeps.f k t832 t833 t834 t835 t836 0).bind fun t844 => (honeycomblaw07_IsoGroup.j0 k (Int.tmod (Go.bits .and .i64 a1 255) 12) (!t844) t832 t833 t834 t835 t836)) else (honeycomblaw07_IsoGroup.j0 k (Int.tmod (Go.bits .and .i64 a1 255) 12) true t832 t833 t834 t835 t836)) = some r := H
      have A23 := Aside0.mk A230
      clear A230
      by_cases c24 : t843 = true
      ·
       subst c24
       have H1 : ((iso_Keeps.f k t832 t833 t834 t835 t836 0).bind fun t844 => (honeycomblaw07_IsoGroup.j0 k (Int.tmod (Go.bits .and .i64 a1 255) 12) (!t844) t832 t833 t834 t835 t836)) = some r := by rw [if_pos rfl] at H; exact H
       clear H
       have H := H1
       clear H1
       replace H := Option.bind_eq_some_iff.mp H
       obtain ⟨t844, A250, H⟩ := H
       replace H : (honeycomblaw07_IsoGroup.j0 k (Int.tmod (Go.bits .and .i64 a1 255) 12) (!t844) t832 t833 t834 t835 t836) = some r := H
       have A25 := Aside0.mk A250
       clear A250
       have H' := Aside0.mk H
       clear H
       try go_wp2
       have n0_ : Aside0 ((((((w12.setCell ⟨gb837, 0, none⟩ (.int .i64 t832)).setCell ⟨gb837, 1, none⟩ (.int .u64 t833)).setCell ⟨gb837, 2, none⟩ (.int .u64 t834)).setCell ⟨gb837, 3, none⟩ (.int .u64 t835)).setCell ⟨gb837, 4, none⟩ (.int .u64 t836)).heap[gb830]? = some (.cells #[.int .i64 a0_0, .int .u64 a0_1, .int .u64 a0_2, .int .u64 a0_3, .int .u64 a0_4] 25 (0, 0))) := ⟨by (with_reducible repeat (first | apply bN_ | apply bD_ | apply bA_)); refine blk_far ?_ NB830_837.out _; (with_reducible repeat (first | apply bN_ | apply bD_ | apply bA_)); refine blk_far ?_ NB830_837.out _; (with_reducible repeat (first | apply bN_ | apply bD_ | apply bA_)); refine blk_far ?_ NB830_837.out _; (with_reducible repeat (first | apply bN_ | apply bD_ | apply bA_)); refine blk_far ?_ NB830_837.out _; (with_reducible repeat (first | apply bN_ | apply bD_ | apply bA_)); refine blk_far ?_ NB830_837.out _; (with_reducible repeat (first | apply bN_ | apply bD_ | apply bA_)); exact BK830.out⟩
       have n1_ : Aside0 ((((((w12.setCell ⟨gb837, 0, none⟩ (.int .i64 t832)).setCell ⟨gb837, 1, none⟩ (.int .u64 t833)).setCell ⟨gb837, 2, none⟩ (.int .u64 t834)).setCell ⟨gb837, 3, none⟩ (.int .u64 t835)).setCell ⟨gb837, 4, none⟩ (.int .u64 t836)).heap[gb837]? = some (.cells #[.int .i64 t832, .int .u64 t833, .int .u64 t834, .int .u64 t835, .int .u64 t836] 29 (0, 0))) := ⟨by (with_reducible repeat (first | apply bN_ | apply bD_ | apply bA_)); refine blk_put (cs := #[.int .i64 t832, .int .u64 t833, .int .u64 t834, .int .u64 t835, .int .u64 0]) ?_ 4 _ rfl; (with_reducible repeat (first | apply bN_ | apply bD_ | apply bA_)); refine blk_put (cs := #[.int .i64 t832, .int .u64 t833, .int .u64 t834, .int .u64 0, .int .u64 0]) ?_ 3 _ rfl; (with_reducible repeat (first | apply bN_ | apply bD_ | apply bA_)); refine blk_put (cs := #[.int .i64 t832, .int .u64 t833, .int .u64 0, .int .u64 0, .int .u64 0]) ?_ 2 _ rfl; (with_reducible repeat (first | apply bN_ | apply bD_ | apply bA_)); refine blk_put (cs := #[.int .i64 t832, .int .u64 0, .int .u64 0, .int .u64 0, .int .u64 0]) ?_ 1 _ rfl; (with_reducible repeat (first | apply bN_ | apply bD_ | apply bA_)); refine blk_put (cs := #[.int .i64 0, .int .u64 0, .int .u64 0, .int .u64 0, .int .u64 0]) ?_ 0 _ rfl; (with_reducible repeat (first | apply bN_ | apply bD_ | apply bA_)); exact BK837.out⟩
       have n2_ : Aside0 (Below w.heap.size w (((((w12.setCell ⟨gb837, 0, none⟩ (.int .i64 t832)).setCell ⟨gb837, 1, none⟩ (.int .u64 t833)).setCell ⟨gb837, 2, none⟩ (.int .u64 t834)).setCell ⟨gb837, 3, none⟩ (.int .u64 t835)).setCell ⟨gb837, 4, none⟩ (.int .u64 t836))) := ⟨by repeat (first | (with_reducible first | exact HB.out | apply ba_ | apply bn_ | apply bd_ | refine below_set ?_ GE830.out | refine below_set ?_ GE837.out) | exact HB.out)⟩
       (try clear BK830)
       (try clear BK837)
       (try clear HB)
       generalize (((((w12.setCell ⟨gb837, 0, none⟩ (.int .i64 t832)).setCell ⟨gb837, 1, none⟩ (.int .u64 t833)).setCell ⟨gb837, 2, none⟩ (.int .u64 t834)).setCell ⟨gb837, 3, none⟩ (.int .u64 t835)).setCell ⟨gb837, 4, none⟩ (.int .u64 t836)) = w26 at n0_ n1_ n2_ ⊢
       have BK830 := n0_
       have BK837 := n1_
       have HB := n2_
       clear n0_ n1_ n2_
       have n0_ := Aside0.mk (blk_drew BK830.out)
       have n1_ := Aside0.mk (blk_drew BK837.out)
       have n2_ := Aside0.mk (below_drew1 HB.out)
       clear BK830
       clear BK837
       clear HB
       have BK830 := n0_
       have BK837 := n1_
       have HB := n2_
       clear n0_ n1_ n2_
       refine start_ (n := 28) (S := fun w' => w'.cell? ⟨gb837, 0, none⟩ = some (.int .i64 t832) ∧ w'.cell? ⟨gb837, 1, none⟩ = some (.int .u64 t833) ∧ w'.cell? ⟨gb837, 2, none⟩ = some (.int .u64 t834) ∧ w'.cell? ⟨gb837, 3, none⟩ = some (.int .u64 t835) ∧ w'.cell? ⟨gb837, 4, none⟩ = some (.int .u64 t836)) (ds := []) #[false, false, false, false, false, false, false, false, false, false, false, false, false, false, false, false, false, false, false, false, false, false, false, false, false, false, false, false] (by kernel_rfl) rfl rfl ⟨(blk_cell BK837.out 0).trans rfl, (blk_cell BK837.out 1).trans rfl, (blk_cell BK837.out 2).trans rfl, (blk_cell BK837.out 3).trans rfl, (blk_cell BK837.out 4).trans rfl⟩ (fun hHeld => ?_); refine with_tabW honeycomblaw07_IsoGroup.tab5 honeycomblaw07_IsoGroup.bits5 (fun HT_ HW_ => ?_)
       generalize w26.drew = w27 at BK830 BK837 HB hHeld ⊢
       refine pure_ (i := 1) (N := some 22) (v := ?_) (a' := ?_) #[false, true, false, false, false, false, false, false, false, false, false, false, false, false, false, false, false, false, false, false, false, false, false, false, false, false, false, false] rfl rfl (any_of HT_.out (by kernel_rfl)) (fun _ _ _ h => h) (Or.inl ⟨by rfl, ?_⟩) ?_ ?_
       rotate_left
       ·
        intro w'
        go_simp
        with_reducible rfl
       rotate_left
       ·
        simp only [Act.put, List.setIfInBounds_toArray, List.set_cons_zero, List.set_cons_succ, i64_w, i32_w]
        rfl
       refine take_ (i := 0) (N := some 21) (v := ?_) (a' := ?_) #[true, true, false, false, false, false, false, false, false, false, false, false, false, false, false, false, false, false, false, false, false, false, false, false, false, false, false, false] rfl rfl (take_ofW HT_.out HW_.out (by kernel_rfl)) (fun _ _ _ h => h) (Or.inl ⟨by rfl, ?_⟩) hHeld ?_ ?_
       rotate_left
       ·
        rintro w' ⟨s0, s1, s2, s3, s4⟩
        go_simp
        with_reducible rfl
       rotate_left
       ·
        simp only [Act.put, List.setIfInBounds_toArray, List.set_cons_zero, List.set_cons_succ, i64_w, i32_w]
        rfl
       refine one_ (i := 2) (N := some 23) #[true, true, true, false, false, false, false, false, false, false, false, false, false, false, false, false, false, false, false, false, false, false, false, false, false, false, false, false] rfl rfl (one_of HT_.out (by kernel_rfl)) (by decide) (fun K hK => ?_)
       refine goes_ Tryd.func18 (by kernel_rfl) rfl #[.agg #[.int .i64 t832, .int .u64 t833, .int .u64 t834, .int .u64 t835, .int .u64 t836], .int .i64 (Int.tmod (Go.bits .and .i64 a1 255) 12)] (by rfl) rfl rfl (by (try simp only [List.map_toArray, List.map_cons, List.map_nil]); first | done | rfl | (simp only [List.length_drop, List.length_take]; rfl)) ?_
       with_reducible refine (iso_Keeps.calls k t832 t833 t834 t835 t836 (Int.tmod (Go.bits .and .i64 a1 255) 12) true _ ?side1 A15.out).mono ?_
       (case side1 => exact HGSix.out.below (by repeat (first | (with_reducible first | exact HB.out | apply ba_ | apply bn_ | apply bd_ | refine below_set ?_ GE830.out | refine below_set ?_ GE837.out) | exact HB.out)))
       rintro e w28 ⟨rfl, hb⟩
       refine ⟨_, rfl, ?_⟩
       have n0_ := Aside0.mk (blk_below (g := gb830) (o := .cells #[.int .i64 a0_0, .int .u64 a0_1, .int .u64 a0_2, .int .u64 a0_3, .int .u64 a0_4] 25 (0, 0)) (by (with_reducible repeat (first | apply bN_ | apply bD_ | apply bA_)); exact BK830.out) hb)
       have n1_ := Aside0.mk (blk_below (g := gb837) (o := .cells #[.int .i64 t832, .int .u64 t833, .int .u64 t834, .int .u64 t835, .int .u64 t836] 29 (0, 0)) (by (with_reducible repeat (first | apply bN_ | apply bD_ | apply bA_)); exact BK837.out) hb)
       have n2_ := Aside0.mk (below_step (by repeat (first | (with_reducible first | exact HB.out | apply ba_ | apply bn_ | apply bd_ | refine below_set ?_ GE830.out | refine below_set ?_ GE837.out) | exact HB.out)) hb)
       clear BK830
       clear BK837
       clear HB
       have BK830 := n0_
       have BK837 := n1_
       have HB := n2_
       clear n0_ n1_ n2_
       (try clear hb)
       (try clear hb2)
       (try clear hk)
       (try clear hi)
       refine hK.out _ _ ⟨(blk_cell BK837.out 0).trans rfl, (blk_cell BK837.out 1).trans rfl, (blk_cell BK837.out 2).trans rfl, (blk_cell BK837.out 3).trans rfl, (blk_cell BK837.out 4).trans rfl⟩ (fun hHeld => ?_)
       clear hK K
       refine norm_ (a' := ?_) ?_ ?_
       rotate_left
       ·
        show Act.put _ (some 23) _ = _
        simp only [Act.put, List.setIfInBounds_toArray, List.set_cons_zero, List.set_cons_succ, i64_w, i32_w]
        rfl
       refine pure_ (i := 3) (N := some 24) (v := ?_) (a' := ?_) #[true, true, true, true, false, false, false, false, false, false, false, false, false, false, false, false, false, false, false, false, false, false, false, false, false, false, false, false] rfl rfl (any_of HT_.out (by kernel_rfl)) (fun _ _ _ h => h) (Or.inl ⟨by rfl, ?_⟩) ?_ ?_
       rotate_left
       ·
        intro w'
        go_simp
        with_reducible rfl
       rotate_left
       ·
        simp only [Act.put, List.setIfInBounds_toArray, List.set_cons_zero, List.set_cons_succ, i64_w, i32_w]
        rfl
       refine pure_ (i := 5) (N := some 26) (v := ?_) (a' := ?_) #[true, true, true, true, false, true, false, false, false, false, false, false, false, false, false, false, false, false, false, false, false, false, false, false, false, false, false, false] rfl rfl (any_of HT_.out (by kernel_rfl)) (fun _ _ _ h => h) (Or.inl ⟨by rfl, ?_⟩) ?_ ?_
       rotate_left
       ·
        intro w'
        go_simp
        with_reducible rfl
       rotate_left
       ·
        simp only [Act.put, List.setIfInBounds_toArray, List.set_cons_zero, List.set_cons_succ, i64_w, i32_w]
        rfl
       refine take_ (i := 4) (N := some 25) (v := ?_) (a' := ?_) #[true, true, true, true, true, true, false, false, false, false, false, false, false, false, false, false, false, false, false, false, false, false, false, false, false, false, false, false] rfl rfl (take_ofW HT_.out HW_.out (by kernel_rfl)) (fun _ _ _ h => h) (Or.inl ⟨by rfl, ?_⟩) hHeld ?_ ?_
       rotate_left
       ·
        rintro w' ⟨s0, s1, s2, s3, s4⟩
        go_simp
        with_reducible rfl
       rotate_left
       ·
        simp only [Act.put, List.setIfInBounds_toArray, List.set_cons_zero, List.set_cons_succ, i64_w, i32_w]
        rfl
       refine one_ (i := 6) (N := some 27) #[true, true, true, true, true, true, true, false, false, false, false, false, false, false, false, false, false, false, false, false, false, false, false, false, false, false, false, false] rfl rfl (one_of HT_.out (by kernel_rfl)) (by decide) (fun K hK => ?_)
       refine goes_ Tryd.func18 (by kernel_rfl) rfl #[.agg #[.int .i64 t832, .int .u64 t833, .int .u64 t834, .int .u64 t835, .int .u64 t836], .int .i64 (Int.tmod (Go.bits .and .i64 a2 255) 12)] (by rfl) rfl rfl (by (try simp only [List.map_toArray, List.map_cons, List.map_nil]); first | done | rfl | (simp only [List.length_drop, List.length_take]; rfl)) ?_
       with_reducible refine (iso_Keeps.calls k t832 t833 t834 t835 t836 (Int.tmod (Go.bits .and .i64 a2 255) 12) true _ ?side1 A17.out).mono ?_
       (case side1 => exact HGSix.out.below (by repeat (first | (with_reducible first | exact HB.out | apply ba_ | apply bn_ | apply bd_ | refine below_set ?_ GE830.out | refine below_set ?_ GE837.out) | exact HB.out)))
       rintro e w29 ⟨rfl, hb⟩
       refine ⟨_, rfl, ?_⟩
       have n0_ := Aside0.mk (blk_below (g := gb830) (o := .cells #[.int .i64 a0_0, .int .u64 a0_1, .int .u64 a0_2, .int .u64 a0_3, .int .u64 a0_4] 25 (0, 0)) (by (with_reducible repeat (first | apply bN_ | apply bD_ | apply bA_)); exact BK830.out) hb)
       have n1_ := Aside0.mk (blk_below (g := gb837) (o := .cells #[.int .i64 t832, .int .u64 t833, .int .u64 t834, .int .u64 t835, .int .u64 t836] 29 (0, 0)) (by (with_reducible repeat (first | apply bN_ | apply bD_ | apply bA_)); exact BK837.out) hb)
       have n2_ := Aside0.mk (below_step (by repeat (first | (with_reducible first | exact HB.out | apply ba_ | apply bn_ | apply bd_ | refine below_set ?_ GE830.out | refine below_set ?_ GE837.out) | exact HB.out)) hb)
       clear BK830
       clear BK837
       clear HB
       have BK830 := n0_
       have BK837 := n1_
       have HB := n2_
       clear n0_ n1_ n2_
       (try clear hb)
       (try clear hb2)
       (try clear hk)
       (try clear hi)
       refine hK.out _ _ ⟨(blk_cell BK837.out 0).trans rfl, (blk_cell BK837.out 1).trans rfl, (blk_cell BK837.out 2).trans rfl, (blk_cell BK837.out 3).trans rfl, (blk_cell BK837.out 4).trans rfl⟩ (fun hHeld => ?_)
       clear hK K
       refine norm_ (a' := ?_) ?_ ?_
       rotate_left
       ·
        show Act.put _ (some 27) _ = _
        simp only [Act.put, List.setIfInBounds_toArray, List.set_cons_zero, List.set_cons_succ, i64_w, i32_w]
        rfl
       refine pure_ (i := 7) (N := some 28) (v := ?_) (a' := ?_) #[true, true, true, true, true, true, true, true, false, false, false, false, false, false, false, false, false, false, false, false, false, false, false, false, false, false, false, false] rfl rfl (any_of HT_.out (by kernel_rfl)) (fun _ _ _ h => h) (Or.inl ⟨by rfl, ?_⟩) ?_ ?_
       rotate_left
       ·
        intro w'
        go_simp
        with_reducible rfl
       rotate_left
       ·
        simp only [Act.put, List.setIfInBounds_toArray, List.set_cons_zero, List.set_cons_succ, i64_w, i32_w]
        rfl
       refine pure_ (i := 9) (N := some 30) (v := ?_) (a' := ?_) #[true, true, true, true, true, true, true, true, false, true, false, false, false, false, false, false, false, false, false, false, false, false, false, false, false, false, false, false] rfl rfl (any_of HT_.out (by kernel_rfl)) (fun _ _ _ h => h) (Or.inl ⟨by rfl, ?_⟩) ?_ ?_
       rotate_left
       ·
        intro w'
        go_simp
        with_reducible rfl
       rotate_left
       ·
        simp only [Act.put, List.setIfInBounds_toArray, List.set_cons_zero, List.set_cons_succ, i64_w, i32_w]
        rfl
       refine pure_ (i := 10) (N := some 31) (v := ?_) (a' := ?_) #[true, true, true, true, true, true, true, true, false, true, true, false, false, false, false, false, false, false, false, false, false, false, false, false, false, false, false, false] rfl rfl (any_of HT_.out (by kernel_rfl)) (fun _ _ _ h => h) (Or.inl ⟨by rfl, ?_⟩) ?_ ?_
       rotate_left
       ·
        intro w'
        go_simp
        with_reducible rfl
       rotate_left
       ·
        simp only [Act.put, List.setIfInBounds_toArray, List.set_cons_zero, List.set_cons_succ, i64_w, i32_w]
        rfl
       refine take_ (i := 8) (N := some 29) (v := ?_) (a' := ?_) #[true, true, true, true, true, true, true, true, true, true, true, false, false, false, false, false, false, false, false, false, false, false, false, false, false, false, false, false] rfl rfl (take_ofW HT_.out HW_.out (by kernel_rfl)) (fun _ _ _ h => h) (Or.inl ⟨by rfl, ?_⟩) hHeld ?_ ?_
       rotate_left
       ·
        rintro w' ⟨s0, s1, s2, s3, s4⟩
        go_simp
        with_reducible rfl
       rotate_left
       ·
        simp only [Act.put, List.setIfInBounds_toArray, List.set_cons_zero, List.set_cons_succ, i64_w, i32_w]
        rfl
       refine one_ (i := 11) (N := some 32) #[true, true, true, true, true, true, true, true, true, true, true, true, false, false, false, false, false, false, false, false, false, false, false, false, false, false, false, false] rfl rfl (one_of HT_.out (by kernel_rfl)) (by decide) (fun K hK => ?_)
       refine goes_ Tryd.func19 (by kernel_rfl) rfl #[.int .i64 (Int.tmod (Go.bits .and .i64 a1 255) 12), .int .i64 (Int.tmod (Go.bits .and .i64 a2 255) 12)] (by rfl) rfl rfl (by (try simp only [List.map_toArray, List.map_cons, List.map_nil]); first | done | rfl | (simp only [List.length_drop, List.length_take]; rfl)) ?_
       with_reducible refine (axis_Operator_Then.calls (Int.tmod (Go.bits .and .i64 a1 255) 12) (Int.tmod (Go.bits .and .i64 a2 255) 12) t840 _ A19.out).mono ?_
       rintro e w' ⟨rfl, ⟨nd, rfl⟩⟩
       refine ⟨_, rfl, ?_⟩
       refine hK.out _ _ ⟨(blk_cell BK837.out 0).trans rfl, (blk_cell BK837.out 1).trans rfl, (blk_cell BK837.out 2).trans rfl, (blk_cell BK837.out 3).trans rfl, (blk_cell BK837.out 4).trans rfl⟩ (fun hHeld => ?_)
       clear hK K
       refine norm_ (a' := ?_) ?_ ?_
       rotate_left
       ·
        show Act.put _ (some 32) _ = _
        simp only [Act.put, List.setIfInBounds_toArray, List.set_cons_zero, List.set_cons_succ, i64_w, i32_w]
        rfl
       refine one_ (i := 12) (N := some 33) #[true, true, true, true, true, true, true, true, true, true, true, true, true, false, false, false, false, false, false, false, false, false, false, false, false, false, false, false] rfl rfl (one_of HT_.out (by kernel_rfl)) (by decide) (fun K hK => ?_)
       refine goes_ Tryd.func18 (by kernel_rfl) rfl #[.agg #[.int .i64 t832, .int .u64 t833, .int .u64 t834, .int .u64 t835, .int .u64 t836], .int .i64 t840] (by rfl) rfl rfl (by (try simp only [List.map_toArray, List.map_cons, List.map_nil]); first | done | rfl | (simp only [List.length_drop, List.length_take]; rfl)) ?_
       with_reducible refine (iso_Keeps.calls k t832 t833 t834 t835 t836 t840 true _ ?side1 A20.out).mono ?_
       (case side1 => exact HGSix.out.below (by repeat (first | (with_reducible first | exact HB.out | apply ba_ | apply bn_ | apply bd_ | refine below_set ?_ GE830.out | refine below_set ?_ GE837.out) | exact HB.out)))
       rintro e w30 ⟨rfl, hb⟩
       refine ⟨_, rfl, ?_⟩
       have n0_ := Aside0.mk (blk_below (g := gb830) (o := .cells #[.int .i64 a0_0, .int .u64 a0_1, .int .u64 a0_2, .int .u64 a0_3, .int .u64 a0_4] 25 (0, 0)) (by (with_reducible repeat (first | apply bN_ | apply bD_ | apply bA_)); exact BK830.out) hb)
       have n1_ := Aside0.mk (blk_below (g := gb837) (o := .cells #[.int .i64 t832, .int .u64 t833, .int .u64 t834, .int .u64 t835, .int .u64 t836] 29 (0, 0)) (by (with_reducible repeat (first | apply bN_ | apply bD_ | apply bA_)); exact BK837.out) hb)
       have n2_ := Aside0.mk (below_step (by repeat (first | (with_reducible first | exact HB.out | apply ba_ | apply bn_ | apply bd_ | refine below_set ?_ GE830.out | refine below_set ?_ GE837.out) | exact HB.out)) hb)
       clear BK830
       clear BK837
       clear HB
       have BK830 := n0_
       have BK837 := n1_
       have HB := n2_
       clear n0_ n1_ n2_
       (try clear hb)
       (try clear hb2)
       (try clear hk)
       (try clear hi)
       refine hK.out _ _ ⟨(blk_cell BK837.out 0).trans rfl, (blk_cell BK837.out 1).trans rfl, (blk_cell BK837.out 2).trans rfl, (blk_cell BK837.out 3).trans rfl, (blk_cell BK837.out 4).trans rfl⟩ (fun hHeld => ?_)
       clear hK K
       refine norm_ (a' := ?_) ?_ ?_
       rotate_left
       ·
        show Act.put _ (some 33) _ = _
        simp only [Act.put, List.setIfInBounds_toArray, List.set_cons_zero, List.set_cons_succ, i64_w, i32_w]
        rfl
       refine pure_ (i := 13) (N := some 34) (v := ?_) (a' := ?_) #[true, true, true, true, true, true, true, true, true, true, true, true, true, true, false, false, false, false, false, false, false, false, false, false, false, false, false, false] rfl rfl (any_of HT_.out (by kernel_rfl)) (fun _ _ _ h => h) (Or.inl ⟨by rfl, ?_⟩) ?_ ?_
       rotate_left
       ·
        intro w'
        go_simp
        with_reducible rfl
       rotate_left
       ·
        simp only [Act.put, List.setIfInBounds_toArray, List.set_cons_zero, List.set_cons_succ, i64_w, i32_w]
        rfl
       refine pure_ (i := 14) (N := some 35) (v := ?_) (a' := ?_) #[true, true, true, true, true, true, true, true, true, true, true, true, true, true, true, false, false, false, false, false, false, false, false, false, false, false, false, false] rfl rfl (any_of HT_.out (by kernel_rfl)) (fun _ _ _ h => h) (Or.inl ⟨by rfl, ?_⟩) ?_ ?_
       rotate_left
       ·
        intro w'
        go_simp
        with_reducible rfl
       rotate_left
       ·
        simp only [Act.put, List.setIfInBounds_toArray, List.set_cons_zero, List.set_cons_succ, i64_w, i32_w]
        rfl
       refine pure_ (i := 15) (N := some 36) (v := ?_) (a' := ?_) #[true, true, true, true, true, true, true, true, true, true, true, true, true, true, true, true, false, false, false, false, false, false, false, false, false, false, false, false] rfl rfl (any_of HT_.out (by kernel_rfl)) (fun _ _ _ h => h) (Or.inl ⟨by rfl, ?_⟩) ?_ ?_
       rotate_left
       ·
        intro w'
        go_simp
        with_reducible rfl
       rotate_left
       ·
        simp only [Act.put, List.setIfInBounds_toArray, List.set_cons_zero, List.set_cons_succ, i64_w, i32_w]
        rfl
       refine pure_ (i := 17) (N := some 38) (v := ?_) (a' := ?_) #[true, true, true, true, true, true, true, true, true, true, true, true, true, true, true, true, false, true, false, false, false, false, false, false, false, false, false, false] rfl rfl (any_of HT_.out (by kernel_rfl)) (fun _ _ _ h => h) (Or.inl ⟨by rfl, ?_⟩) ?_ ?_
       rotate_left
       ·
        intro w'
        go_simp
        with_reducible rfl
       rotate_left
       ·
        simp only [Act.put, List.setIfInBounds_toArray, List.set_cons_zero, List.set_cons_succ, i64_w, i32_w]
        rfl
       refine take_ (i := 16) (N := some 37) (v := ?_) (a' := ?_) #[true, true, true, true, true, true, true, true, true, true, true, true, true, true, true, true, true, true, false, false, false, false, false, false, false, false, false, false] rfl rfl (take_ofW HT_.out HW_.out (by kernel_rfl)) (fun _ _ _ h => h) (Or.inl ⟨by rfl, ?_⟩) hHeld ?_ ?_
       rotate_left
       ·
        rintro w' ⟨s0, s1, s2, s3, s4⟩
        go_simp
        with_reducible rfl
       rotate_left
       ·
        simp only [Act.put, List.setIfInBounds_toArray, List.set_cons_zero, List.set_cons_succ, i64_w, i32_w]
        rfl
       refine one_ (i := 18) (N := some 39) #[true, true, true, true, true, true, true, true, true, true, true, true, true, true, true, true, true, true, true, false, false, false, false, false, false, false, false, false] rfl rfl (one_of HT_.out (by kernel_rfl)) (by decide) (fun K hK => ?_)
       refine goes_ Tryd.func16 (by kernel_rfl) rfl #[.int .i64 (Int.tmod (Go.bits .and .i64 a1 255) 12)] (by rfl) rfl rfl (by (try simp only [List.map_toArray, List.map_cons, List.map_nil]); first | done | rfl | (simp only [List.length_drop, List.length_take]; rfl)) ?_
       with_reducible refine (axis_Operator_Back.calls (Int.tmod (Go.bits .and .i64 a1 255) 12) t842 _ A22.out).mono ?_
       rintro e w' ⟨rfl, ⟨nd, rfl⟩⟩
       refine ⟨_, rfl, ?_⟩
       refine hK.out _ _ ⟨(blk_cell BK837.out 0).trans rfl, (blk_cell BK837.out 1).trans rfl, (blk_cell BK837.out 2).trans rfl, (blk_cell BK837.out 3).trans rfl, (blk_cell BK837.out 4).trans rfl⟩ (fun hHeld => ?_)
       clear hK K
       refine norm_ (a' := ?_) ?_ ?_
       rotate_left
       ·
        show Act.put _ (some 39) _ = _
        simp only [Act.put, List.setIfInBounds_toArray, List.set_cons_zero, List.set_cons_succ, i64_w, i32_w]
        rfl
       refine one_ (i := 19) (N := some 40) #[true, true, true, true, true, true, true, true, true, true, true, true, true, true, true, true, true, true, true, true, false, false, false, false, false, false, false, false] rfl rfl (one_of HT_.out (by kernel_rfl)) (by decide) (fun K hK => ?_)
       refine goes_ Tryd.func18 (by kernel_rfl) rfl #[.agg #[.int .i64 t832, .int .u64 t833, .int .u64 t834, .int .u64 t835, .int .u64 t836], .int .i64 t842] (by rfl) rfl rfl (by (try simp only [List.map_toArray, List.map_cons, List.map_nil]); first | done | rfl | (simp only [List.length_drop, List.length_take]; rfl)) ?_
       with_reducible refine (iso_Keeps.calls k t832 t833 t834 t835 t836 t842 true _ ?side1 A23.out).mono ?_
       (case side1 => exact HGSix.out.below (by repeat (first | (with_reducible first | exact HB.out | apply ba_ | apply bn_ | apply bd_ | refine below_set ?_ GE830.out | refine below_set ?_ GE837.out) | exact HB.out)))
       rintro e w31 ⟨rfl, hb⟩
       refine ⟨_, rfl, ?_⟩
       have n0_ := Aside0.mk (blk_below (g := gb830) (o := .cells #[.int .i64 a0_0, .int .u64 a0_1, .int .u64 a0_2, .int .u64 a0_3, .int .u64 a0_4] 25 (0, 0)) (by (with_reducible repeat (first | apply bN_ | apply bD_ | apply bA_)); exact BK830.out) hb)
       have n1_ := Aside0.mk (blk_below (g := gb837) (o := .cells #[.int .i64 t832, .int .u64 t833, .int .u64 t834, .int .u64 t835, .int .u64 t836] 29 (0, 0)) (by (with_reducible repeat (first | apply bN_ | apply bD_ | apply bA_)); exact BK837.out) hb)
       have n2_ := Aside0.mk (below_step (by repeat (first | (with_reducible first | exact HB.out | apply ba_ | apply bn_ | apply bd_ | refine below_set ?_ GE830.out | refine below_set ?_ GE837.out) | exact HB.out)) hb)
       clear BK830
       clear BK837
       clear HB
       have BK830 := n0_
       have BK837 := n1_
       have HB := n2_
       clear n0_ n1_ n2_
       (try clear hb)
       (try clear hb2)
       (try clear hk)
       (try clear hi)
       refine hK.out _ _ ⟨(blk_cell BK837.out 0).trans rfl, (blk_cell BK837.out 1).trans rfl, (blk_cell BK837.out 2).trans rfl, (blk_cell BK837.out 3).trans rfl, (blk_cell BK837.out 4).trans rfl⟩ (fun hHeld => ?_)
       clear hK K
       refine norm_ (a' := ?_) ?_ ?_
       rotate_left
       ·
        show Act.put _ (some 40) _ = _
        simp only [Act.put, List.setIfInBounds_toArray, List.set_cons_zero, List.set_cons_succ, i64_w, i32_w]
        rfl
       refine pure_ (i := 20) (N := some 41) (v := ?_) (a' := ?_) #[true, true, true, true, true, true, true, true, true, true, true, true, true, true, true, true, true, true, true, true, true, false, false, false, false, false, false, false] rfl rfl (any_of HT_.out (by kernel_rfl)) (fun _ _ _ h => h) (Or.inl ⟨by rfl, ?_⟩) ?_ ?_
       rotate_left
       ·
        intro w'
        go_simp
        with_reducible rfl
       rotate_left
       ·
        simp only [Act.put, List.setIfInBounds_toArray, List.set_cons_zero, List.set_cons_succ, i64_w, i32_w]
        rfl
       refine pure_ (i := 21) (N := some 42) (v := ?_) (a' := ?_) #[true, true, true, true, true, true, true, true, true, true, true, true, true, true, true, true, true, true, true, true, true, true, false, false, false, false, false, false] rfl rfl (any_of HT_.out (by kernel_rfl)) (fun _ _ _ h => h) (Or.inl ⟨by rfl, ?_⟩) ?_ ?_
       rotate_left
       ·
        intro w'
        go_simp
        with_reducible rfl
       rotate_left
       ·
        simp only [Act.put, List.setIfInBounds_toArray, List.set_cons_zero, List.set_cons_succ, i64_w, i32_w]
        rfl
       refine pure_ (i := 22) (N := some 43) (v := ?_) (a' := ?_) #[true, true, true, true, true, true, true, true, true, true, true, true, true, true, true, true, true, true, true, true, true, true, true, false, false, false, false, false] rfl rfl (any_of HT_.out (by kernel_rfl)) (fun _ _ _ h => h) (Or.inl ⟨by rfl, ?_⟩) ?_ ?_
       rotate_left
       ·
        intro w'
        go_simp
        with_reducible rfl
       rotate_left
       ·
        simp only [Act.put, List.setIfInBounds_toArray, List.set_cons_zero, List.set_cons_succ, i64_w, i32_w]
        rfl
       refine pure_ (i := 23) (N := some 44) (v := ?_) (a' := ?_) #[true, true, true, true, true, true, true, true, true, true, true, true, true, true, true, true, true, true, true, true, true, true, true, true, false, false, false, false] rfl rfl (any_of HT_.out (by kernel_rfl)) (fun _ _ _ h => h) (Or.inl ⟨by rfl, ?_⟩) ?_ ?_
       rotate_left
       ·
        intro w'
        go_simp
        with_reducible rfl
       rotate_left
       ·
        simp only [Act.put, List.setIfInBounds_toArray, List.set_cons_zero, List.set_cons_succ, i64_w, i32_w]
        rfl
       refine take_ (i := 24) (N := some 45) (v := ?_) (a' := ?_) #[true, true, true, true, true, true, true, true, true, true, true, true, true, true, true, true, true, true, true, true, true, true, true, true, true, false, false, false] rfl rfl (take_ofW HT_.out HW_.out (by kernel_rfl)) (fun _ _ _ h => h) (Or.inl ⟨by rfl, ?_⟩) hHeld ?_ ?_
       rotate_left
       ·
        rintro w' ⟨s0, s1, s2, s3, s4⟩
        go_simp
        with_reducible rfl
       rotate_left
       ·
        simp only [Act.put, List.setIfInBounds_toArray, List.set_cons_zero, List.set_cons_succ, i64_w, i32_w]
        rfl
       refine one_ (i := 25) (N := some 46) #[true, true, true, true, true, true, true, true, true, true, true, true, true, true, true, true, true, true, true, true, true, true, true, true, true, true, false, false] rfl rfl (one_of HT_.out (by kernel_rfl)) (by decide) (fun K hK => ?_)
       refine goes_ Tryd.func18 (by kernel_rfl) rfl #[.agg #[.int .i64 t832, .int .u64 t833, .int .u64 t834, .int .u64 t835, .int .u64 t836], .int .i64 0] (by rfl) rfl rfl (by (try simp only [List.map_toArray, List.map_cons, List.map_nil]); first | done | rfl | (simp only [List.length_drop, List.length_take]; rfl)) ?_
       with_reducible refine (iso_Keeps.calls k t832 t833 t834 t835 t836 0 t844 _ ?side1 A25.out).mono ?_
       (case side1 => exact HGSix.out.below (by repeat (first | (with_reducible first | exact HB.out | apply ba_ | apply bn_ | apply bd_ | refine below_set ?_ GE830.out | refine below_set ?_ GE837.out) | exact HB.out)))
       rintro e w32 ⟨rfl, hb⟩
       refine ⟨_, rfl, ?_⟩
       have n0_ := Aside0.mk (blk_below (g := gb830) (o := .cells #[.int .i64 a0_0, .int .u64 a0_1, .int .u64 a0_2, .int .u64 a0_3, .int .u64 a0_4] 25 (0, 0)) (by (with_reducible repeat (first | apply bN_ | apply bD_ | apply bA_)); exact BK830.out) hb)
       have n1_ := Aside0.mk (blk_below (g := gb837) (o := .cells #[.int .i64 t832, .int .u64 t833, .int .u64 t834, .int .u64 t835, .int .u64 t836] 29 (0, 0)) (by (with_reducible repeat (first | apply bN_ | apply bD_ | apply bA_)); exact BK837.out) hb)
       have n2_ := Aside0.mk (below_step (by repeat (first | (with_reducible first | exact HB.out | apply ba_ | apply bn_ | apply bd_ | refine below_set ?_ GE830.out | refine below_set ?_ GE837.out) | exact HB.out)) hb)
       clear BK830
       clear BK837
       clear HB
       have BK830 := n0_
       have BK837 := n1_
       have HB := n2_
       clear n0_ n1_ n2_
       (try clear hb)
       (try clear hb2)
       (try clear hk)
       (try clear hi)
       refine hK.out _ _ ⟨(blk_cell BK837.out 0).trans rfl, (blk_cell BK837.out 1).trans rfl, (blk_cell BK837.out 2).trans rfl, (blk_cell BK837.out 3).trans rfl, (blk_cell BK837.out 4).trans rfl⟩ (fun hHeld => ?_)
       clear hK K
       refine norm_ (a' := ?_) ?_ ?_
       rotate_left
       ·
        show Act.put _ (some 46) _ = _
        simp only [Act.put, List.setIfInBounds_toArray, List.set_cons_zero, List.set_cons_succ, i64_w, i32_w]
        rfl
       refine pure_ (i := 26) (N := some 47) (v := ?_) (a' := ?_) #[true, true, true, true, true, true, true, true, true, true, true, true, true, true, true, true, true, true, true, true, true, true, true, true, true, true, true, false] rfl rfl (any_of HT_.out (by kernel_rfl)) (fun _ _ _ h => h) (Or.inl ⟨by rfl, ?_⟩) ?_ ?_
       rotate_left
       ·
        intro w'
        go_simp
        with_reducible rfl
       rotate_left
       ·
        simp only [Act.put, List.setIfInBounds_toArray, List.set_cons_zero, List.set_cons_succ, i64_w, i32_w]
        rfl
       refine pure_ (i := 27) (N := some 48) (v := ?_) (a' := ?_) #[true, true, true, true, true, true, true, true, true, true, true, true, true, true, true, true, true, true, true, true, true, true, true, true, true, true, true, true] rfl rfl (any_of HT_.out (by kernel_rfl)) (fun _ _ _ h => h) (Or.inl ⟨by rfl, ?_⟩) ?_ ?_
       rotate_left
       ·
        intro w'
        go_simp
        with_reducible rfl
       rotate_left
       ·
        simp only [Act.put, List.setIfInBounds_toArray, List.set_cons_zero, List.set_cons_succ, i64_w, i32_w]
        rfl
       refine done_ (done_of HT_.out (by kernel_rfl)) ?_
       try go_wp2
       go_meet
       case rel => exact ⟨_, (!t844), (by first | rfl | (simp; done) | (simp [*]; done)), H', ⟨by first | omega | exact Nat.le_refl _⟩, ⟨by (with_reducible repeat (first | apply bN_ | apply bD_ | apply bA_)); exact BK830.out⟩, ⟨by (with_reducible repeat (first | apply bN_ | apply bD_ | apply bA_)); exact BK837.out⟩, ⟨by repeat (first | (with_reducible first | exact HB.out | apply ba_ | apply bn_ | apply bd_ | refine below_set ?_ GE830.out | refine below_set ?_ GE837.out) | exact HB.out)⟩⟩
      ·
       replace c24 := Bool.eq_false_iff.mpr c24
       subst c24
       have H1 : (honeycomblaw07_IsoGroup.j0 k (Int.tmod (Go.bits .and .i64 a1 255) 12) true t832 t833 t834 t835 t836) = some r := by rw [if_neg (show ¬ (false = true) by decide)] at H; exact H
       clear H
       have H := H1
       clear H1
       have H' := Aside0.mk H
       clear H
       try go_wp2
       have n0_ : Aside0 ((((((w12.setCell ⟨gb837, 0, none⟩ (.int .i64 t832)).setCell ⟨gb837, 1, none⟩ (.int .u64 t833)).setCell ⟨gb837, 2, none⟩ (.int .u64 t834)).setCell ⟨gb837, 3, none⟩ (.int .u64 t835)).setCell ⟨gb837, 4, none⟩ (.int .u64 t836)).heap[gb830]? = some (.cells #[.int .i64 a0_0, .int .u64 a0_1, .int .u64 a0_2, .int .u64 a0_3, .int .u64 a0_4] 25 (0, 0))) := ⟨by (with_reducible repeat (first | apply bN_ | apply bD_ | apply bA_)); refine blk_far ?_ NB830_837.out _; (with_reducible repeat (first | apply bN_ | apply bD_ | apply bA_)); refine blk_far ?_ NB830_837.out _; (with_reducible repeat (first | apply bN_ | apply bD_ | apply bA_)); refine blk_far ?_ NB830_837.out _; (with_reducible repeat (first | apply bN_ | apply bD_ | apply bA_)); refine blk_far ?_ NB830_837.out _; (with_reducible repeat (first | apply bN_ | apply bD_ | apply bA_)); refine blk_far ?_ NB830_837.out _; (with_reducible repeat (first | apply bN_ | apply bD_ | apply bA_)); exact BK830.out⟩
       have n1_ : Aside0 ((((((w12.setCell ⟨gb837, 0, none⟩ (.int .i64 t832)).setCell ⟨gb837, 1, none⟩ (.int .u64 t833)).setCell ⟨gb837, 2, none⟩ (.int .u64 t834)).setCell ⟨gb837, 3, none⟩ (.int .u64 t835)).setCell ⟨gb837, 4, none⟩ (.int .u64 t836)).heap[gb837]? = some (.cells #[.int .i64 t832, .int .u64 t833, .int .u64 t834, .int .u64 t835, .int .u64 t836] 29 (0, 0))) := ⟨by (with_reducible repeat (first | apply bN_ | apply bD_ | apply bA_)); refine blk_put (cs := #[.int .i64 t832, .int .u64 t833, .int .u64 t834, .int .u64 t835, .int .u64 0]) ?_ 4 _ rfl; (with_reducible repeat (first | apply bN_ | apply bD_ | apply bA_)); refine blk_put (cs := #[.int .i64 t832, .int .u64 t833, .int .u64 t834, .int .u64 0, .int .u64 0]) ?_ 3 _ rfl; (with_reducible repeat (first | apply bN_ | apply bD_ | apply bA_)); refine blk_put (cs := #[.int .i64 t832, .int .u64 t833, .int .u64 0, .int .u64 0, .int .u64 0]) ?_ 2 _ rfl; (with_reducible repeat (first | apply bN_ | apply bD_ | apply bA_)); refine blk_put (cs := #[.int .i64 t832, .int .u64 0, .int .u64 0, .int .u64 0, .int .u64 0]) ?_ 1 _ rfl; (with_reducible repeat (first | apply bN_ | apply bD_ | apply bA_)); refine blk_put (cs := #[.int .i64 0, .int .u64 0, .int .u64 0, .int .u64 0, .int .u64 0]) ?_ 0 _ rfl; (with_reducible repeat (first | apply bN_ | apply bD_ | apply bA_)); exact BK837.out⟩
       have n2_ : Aside0 (Below w.heap.size w (((((w12.setCell ⟨gb837, 0, none⟩ (.int .i64 t832)).setCell ⟨gb837, 1, none⟩ (.int .u64 t833)).setCell ⟨gb837, 2, none⟩ (.int .u64 t834)).setCell ⟨gb837, 3, none⟩ (.int .u64 t835)).setCell ⟨gb837, 4, none⟩ (.int .u64 t836))) := ⟨by repeat (first | (with_reducible first | exact HB.out | apply ba_ | apply bn_ | apply bd_ | refine below_set ?_ GE830.out | refine below_set ?_ GE837.out) | exact HB.out)⟩
       (try clear BK830)
       (try clear BK837)
       (try clear HB)
       generalize (((((w12.setCell ⟨gb837, 0, none⟩ (.int .i64 t832)).setCell ⟨gb837, 1, none⟩ (.int .u64 t833)).setCell ⟨gb837, 2, none⟩ (.int .u64 t834)).setCell ⟨gb837, 3, none⟩ (.int .u64 t835)).setCell ⟨gb837, 4, none⟩ (.int .u64 t836)) = w33 at n0_ n1_ n2_ ⊢
       have BK830 := n0_
       have BK837 := n1_
       have HB := n2_
       clear n0_ n1_ n2_
       have n0_ := Aside0.mk (blk_drew BK830.out)
       have n1_ := Aside0.mk (blk_drew BK837.out)
       have n2_ := Aside0.mk (below_drew1 HB.out)
       clear BK830
       clear BK837
       clear HB
       have BK830 := n0_
       have BK837 := n1_
       have HB := n2_
       clear n0_ n1_ n2_
       refine start_ (n := 28) (S := fun w' => w'.cell? ⟨gb837, 0, none⟩ = some (.int .i64 t832) ∧ w'.cell? ⟨gb837, 1, none⟩ = some (.int .u64 t833) ∧ w'.cell? ⟨gb837, 2, none⟩ = some (.int .u64 t834) ∧ w'.cell? ⟨gb837, 3, none⟩ = some (.int .u64 t835) ∧ w'.cell? ⟨gb837, 4, none⟩ = some (.int .u64 t836)) (ds := []) #[false, false, false, false, false, false, false, false, false, false, false, false, false, false, false, false, false, false, false, false, false, false, false, false, false, false, false, false] (by kernel_rfl) rfl rfl ⟨(blk_cell BK837.out 0).trans rfl, (blk_cell BK837.out 1).trans rfl, (blk_cell BK837.out 2).trans rfl, (blk_cell BK837.out 3).trans rfl, (blk_cell BK837.out 4).trans rfl⟩ (fun hHeld => ?_); refine with_tabW honeycomblaw07_IsoGroup.tab5 honeycomblaw07_IsoGroup.bits5 (fun HT_ HW_ => ?_)
       generalize w33.drew = w34 at BK830 BK837 HB hHeld ⊢
       refine pure_ (i := 1) (N := some 22) (v := ?_) (a' := ?_) #[false, true, false, false, false, false, false, false, false, false, false, false, false, false, false, false, false, false, false, false, false, false, false, false, false, false, false, false] rfl rfl (any_of HT_.out (by kernel_rfl)) (fun _ _ _ h => h) (Or.inl ⟨by rfl, ?_⟩) ?_ ?_
       rotate_left
       ·
        intro w'
        go_simp
        with_reducible rfl
       rotate_left
       ·
        simp only [Act.put, List.setIfInBounds_toArray, List.set_cons_zero, List.set_cons_succ, i64_w, i32_w]
        rfl
       refine take_ (i := 0) (N := some 21) (v := ?_) (a' := ?_) #[true, true, false, false, false, false, false, false, false, false, false, false, false, false, false, false, false, false, false, false, false, false, false, false, false, false, false, false] rfl rfl (take_ofW HT_.out HW_.out (by kernel_rfl)) (fun _ _ _ h => h) (Or.inl ⟨by rfl, ?_⟩) hHeld ?_ ?_
       rotate_left
       ·
        rintro w' ⟨s0, s1, s2, s3, s4⟩
        go_simp
        with_reducible rfl
       rotate_left
       ·
        simp only [Act.put, List.setIfInBounds_toArray, List.set_cons_zero, List.set_cons_succ, i64_w, i32_w]
        rfl
       refine one_ (i := 2) (N := some 23) #[true, true, true, false, false, false, false, false, false, false, false, false, false, false, false, false, false, false, false, false, false, false, false, false, false, false, false, false] rfl rfl (one_of HT_.out (by kernel_rfl)) (by decide) (fun K hK => ?_)
       refine goes_ Tryd.func18 (by kernel_rfl) rfl #[.agg #[.int .i64 t832, .int .u64 t833, .int .u64 t834, .int .u64 t835, .int .u64 t836], .int .i64 (Int.tmod (Go.bits .and .i64 a1 255) 12)] (by rfl) rfl rfl (by (try simp only [List.map_toArray, List.map_cons, List.map_nil]); first | done | rfl | (simp only [List.length_drop, List.length_take]; rfl)) ?_
       with_reducible refine (iso_Keeps.calls k t832 t833 t834 t835 t836 (Int.tmod (Go.bits .and .i64 a1 255) 12) true _ ?side1 A15.out).mono ?_
       (case side1 => exact HGSix.out.below (by repeat (first | (with_reducible first | exact HB.out | apply ba_ | apply bn_ | apply bd_ | refine below_set ?_ GE830.out | refine below_set ?_ GE837.out) | exact HB.out)))
       rintro e w35 ⟨rfl, hb⟩
       refine ⟨_, rfl, ?_⟩
       have n0_ := Aside0.mk (blk_below (g := gb830) (o := .cells #[.int .i64 a0_0, .int .u64 a0_1, .int .u64 a0_2, .int .u64 a0_3, .int .u64 a0_4] 25 (0, 0)) (by (with_reducible repeat (first | apply bN_ | apply bD_ | apply bA_)); exact BK830.out) hb)
       have n1_ := Aside0.mk (blk_below (g := gb837) (o := .cells #[.int .i64 t832, .int .u64 t833, .int .u64 t834, .int .u64 t835, .int .u64 t836] 29 (0, 0)) (by (with_reducible repeat (first | apply bN_ | apply bD_ | apply bA_)); exact BK837.out) hb)
       have n2_ := Aside0.mk (below_step (by repeat (first | (with_reducible first | exact HB.out | apply ba_ | apply bn_ | apply bd_ | refine below_set ?_ GE830.out | refine below_set ?_ GE837.out) | exact HB.out)) hb)
       clear BK830
       clear BK837
       clear HB
       have BK830 := n0_
       have BK837 := n1_
       have HB := n2_
       clear n0_ n1_ n2_
       (try clear hb)
       (try clear hb2)
       (try clear hk)
       (try clear hi)
       refine hK.out _ _ ⟨(blk_cell BK837.out 0).trans rfl, (blk_cell BK837.out 1).trans rfl, (blk_cell BK837.out 2).trans rfl, (blk_cell BK837.out 3).trans rfl, (blk_cell BK837.out 4).trans rfl⟩ (fun hHeld => ?_)
       clear hK K
       refine norm_ (a' := ?_) ?_ ?_
       rotate_left
       ·
        show Act.put _ (some 23) _ = _
        simp only [Act.put, List.setIfInBounds_toArray, List.set_cons_zero, List.set_cons_succ, i64_w, i32_w]
        rfl
       refine pure_ (i := 3) (N := some 24) (v := ?_) (a' := ?_) #[true, true, true, true, false, false, false, false, false, false, false, false, false, false, false, false, false, false, false, false, false, false, false, false, false, false, false, false] rfl rfl (any_of HT_.out (by kernel_rfl)) (fun _ _ _ h => h) (Or.inl ⟨by rfl, ?_⟩) ?_ ?_
       rotate_left
       ·
        intro w'
        go_simp
        with_reducible rfl
       rotate_left
       ·
        simp only [Act.put, List.setIfInBounds_toArray, List.set_cons_zero, List.set_cons_succ, i64_w, i32_w]
        rfl
       refine pure_ (i := 5) (N := some 26) (v := ?_) (a' := ?_) #[true, true, true, true, false, true, false, false, false, false, false, false, false, false, false, false, false, false, false, false, false, false, false, false, false, false, false, false] rfl rfl (any_of HT_.out (by kernel_rfl)) (fun _ _ _ h => h) (Or.inl ⟨by rfl, ?_⟩) ?_ ?_
       rotate_left
       ·
        intro w'
        go_simp
        with_reducible rfl
       rotate_left
       ·
        simp only [Act.put, List.setIfInBounds_toArray, List.set_cons_zero, List.set_cons_succ, i64_w, i32_w]
        rfl
       refine take_ (i := 4) (N := some 25) (v := ?_) (a' := ?_) #[true, true, true, true, true, true, false, false, false, false, false, false, false, false, false, false, false, false, false, false, false, false, false, false, false, false, false, false] rfl rfl (take_ofW HT_.out HW_.out (by kernel_rfl)) (fun _ _ _ h => h) (Or.inl ⟨by rfl, ?_⟩) hHeld ?_ ?_
       rotate_left
       ·
        rintro w' ⟨s0, s1, s2, s3, s4⟩
        go_simp
        with_reducible rfl
       rotate_left
       ·
        simp only [Act.put, List.setIfInBounds_toArray, List.set_cons_zero, List.set_cons_succ, i64_w, i32_w]
        rfl
       refine one_ (i := 6) (N := some 27) #[true, true, true, true, true, true, true, false, false, false, false, false, false, false, false, false, false, false, false, false, false, false, false, false, false, false, false, false] rfl rfl (one_of HT_.out (by kernel_rfl)) (by decide) (fun K hK => ?_)
       refine goes_ Tryd.func18 (by kernel_rfl) rfl #[.agg #[.int .i64 t832, .int .u64 t833, .int .u64 t834, .int .u64 t835, .int .u64 t836], .int .i64 (Int.tmod (Go.bits .and .i64 a2 255) 12)] (by rfl) rfl rfl (by (try simp only [List.map_toArray, List.map_cons, List.map_nil]); first | done | rfl | (simp only [List.length_drop, List.length_take]; rfl)) ?_
       with_reducible refine (iso_Keeps.calls k t832 t833 t834 t835 t836 (Int.tmod (Go.bits .and .i64 a2 255) 12) true _ ?side1 A17.out).mono ?_
       (case side1 => exact HGSix.out.below (by repeat (first | (with_reducible first | exact HB.out | apply ba_ | apply bn_ | apply bd_ | refine below_set ?_ GE830.out | refine below_set ?_ GE837.out) | exact HB.out)))
       rintro e w36 ⟨rfl, hb⟩
       refine ⟨_, rfl, ?_⟩
       have n0_ := Aside0.mk (blk_below (g := gb830) (o := .cells #[.int .i64 a0_0, .int .u64 a0_1, .int .u64 a0_2, .int .u64 a0_3, .int .u64 a0_4] 25 (0, 0)) (by (with_reducible repeat (first | apply bN_ | apply bD_ | apply bA_)); exact BK830.out) hb)
       have n1_ := Aside0.mk (blk_below (g := gb837) (o := .cells #[.int .i64 t832, .int .u64 t833, .int .u64 t834, .int .u64 t835, .int .u64 t836] 29 (0, 0)) (by (with_reducible repeat (first | apply bN_ | apply bD_ | apply bA_)); exact BK837.out) hb)
       have n2_ := Aside0.mk (below_step (by repeat (first | (with_reducible first | exact HB.out | apply ba_ | apply bn_ | apply bd_ | refine below_set ?_ GE830.out | refine below_set ?_ GE837.out) | exact HB.out)) hb)
       clear BK830
       clear BK837
       clear HB
       have BK830 := n0_
       have BK837 := n1_
       have HB := n2_
       clear n0_ n1_ n2_
       (try clear hb)
       (try clear hb2)
       (try clear hk)
       (try clear hi)
       refine hK.out _ _ ⟨(blk_cell BK837.out 0).trans rfl, (blk_cell BK837.out 1).trans rfl, (blk_cell BK837.out 2).trans rfl, (blk_cell BK837.out 3).trans rfl, (blk_cell BK837.out 4).trans rfl⟩ (fun hHeld => ?_)
       clear hK K
       refine norm_ (a' := ?_) ?_ ?_
       rotate_left
       ·
        show Act.put _ (some 27) _ = _
        simp only [Act.put, List.setIfInBounds_toArray, List.set_cons_zero, List.set_cons_succ, i64_w, i32_w]
        rfl
       refine pure_ (i := 7) (N := some 28) (v := ?_) (a' := ?_) #[true, true, true, true, true, true, true, true, false, false, false, false, false, false, false, false, false, false, false, false, false, false, false, false, false, false, false, false] rfl rfl (any_of HT_.out (by kernel_rfl)) (fun _ _ _ h => h) (Or.inl ⟨by rfl, ?_⟩) ?_ ?_
       rotate_left
       ·
        intro w'
        go_simp
        with_reducible rfl
       rotate_left
       ·
        simp only [Act.put, List.setIfInBounds_toArray, List.set_cons_zero, List.set_cons_succ, i64_w, i32_w]
        rfl
       refine pure_ (i := 9) (N := some 30) (v := ?_) (a' := ?_) #[true, true, true, true, true, true, true, true, false, true, false, false, false, false, false, false, false, false, false, false, false, false, false, false, false, false, false, false] rfl rfl (any_of HT_.out (by kernel_rfl)) (fun _ _ _ h => h) (Or.inl ⟨by rfl, ?_⟩) ?_ ?_
       rotate_left
       ·
        intro w'
        go_simp
        with_reducible rfl
       rotate_left
       ·
        simp only [Act.put, List.setIfInBounds_toArray, List.set_cons_zero, List.set_cons_succ, i64_w, i32_w]
        rfl
       refine pure_ (i := 10) (N := some 31) (v := ?_) (a' := ?_) #[true, true, true, true, true, true, true, true, false, true, true, false, false, false, false, false, false, false, false, false, false, false, false, false, false, false, false, false] rfl rfl (any_of HT_.out (by kernel_rfl)) (fun _ _ _ h => h) (Or.inl ⟨by rfl, ?_⟩) ?_ ?_
       rotate_left
       ·
        intro w'
        go_simp
        with_reducible rfl
       rotate_left
       ·
        simp only [Act.put, List.setIfInBounds_toArray, List.set_cons_zero, List.set_cons_succ, i64_w, i32_w]
        rfl
       refine take_ (i := 8) (N := some 29) (v := ?_) (a' := ?_) #[true, true, true, true, true, true, true, true, true, true, true, false, false, false, false, false, false, false, false, false, false, false, false, false, false, false, false, false] rfl rfl (take_ofW HT_.out HW_.out (by kernel_rfl)) (fun _ _ _ h => h) (Or.inl ⟨by rfl, ?_⟩) hHeld ?_ ?_
       rotate_left
       ·
        rintro w' ⟨s0, s1, s2, s3, s4⟩
        go_simp
        with_reducible rfl
       rotate_left
       ·
        simp only [Act.put, List.setIfInBounds_toArray, List.set_cons_zero, List.set_cons_succ, i64_w, i32_w]
        rfl
       refine one_ (i := 11) (N := some 32) #[true, true, true, true, true, true, true, true, true, true, true, true, false, false, false, false, false, false, false, false, false, false, false, false, false, false, false, false] rfl rfl (one_of HT_.out (by kernel_rfl)) (by decide) (fun K hK => ?_)
       refine goes_ Tryd.func19 (by kernel_rfl) rfl #[.int .i64 (Int.tmod (Go.bits .and .i64 a1 255) 12), .int .i64 (Int.tmod (Go.bits .and .i64 a2 255) 12)] (by rfl) rfl rfl (by (try simp only [List.map_toArray, List.map_cons, List.map_nil]); first | done | rfl | (simp only [List.length_drop, List.length_take]; rfl)) ?_
       with_reducible refine (axis_Operator_Then.calls (Int.tmod (Go.bits .and .i64 a1 255) 12) (Int.tmod (Go.bits .and .i64 a2 255) 12) t840 _ A19.out).mono ?_
       rintro e w' ⟨rfl, ⟨nd, rfl⟩⟩
       refine ⟨_, rfl, ?_⟩
       refine hK.out _ _ ⟨(blk_cell BK837.out 0).trans rfl, (blk_cell BK837.out 1).trans rfl, (blk_cell BK837.out 2).trans rfl, (blk_cell BK837.out 3).trans rfl, (blk_cell BK837.out 4).trans rfl⟩ (fun hHeld => ?_)
       clear hK K
       refine norm_ (a' := ?_) ?_ ?_
       rotate_left
       ·
        show Act.put _ (some 32) _ = _
        simp only [Act.put, List.setIfInBounds_toArray, List.set_cons_zero, List.set_cons_succ, i64_w, i32_w]
        rfl
       refine one_ (i := 12) (N := some 33) #[true, true, true, true, true, true, true, true, true, true, true, true, true, false, false, false, false, false, false, false, false, false, false, false, false, false, false, false] rfl rfl (one_of HT_.out (by kernel_rfl)) (by decide) (fun K hK => ?_)
       refine goes_ Tryd.func18 (by kernel_rfl) rfl #[.agg #[.int .i64 t832, .int .u64 t833, .int .u64 t834, .int .u64 t835, .int .u64 t836], .int .i64 t840] (by rfl) rfl rfl (by (try simp only [List.map_toArray, List.map_cons, List.map_nil]); first | done | rfl | (simp only [List.length_drop, List.length_take]; rfl)) ?_
       with_reducible refine (iso_Keeps.calls k t832 t833 t834 t835 t836 t840 true _ ?side1 A20.out).mono ?_
       (case side1 => exact HGSix.out.below (by repeat (first | (with_reducible first | exact HB.out | apply ba_ | apply bn_ | apply bd_ | refine below_set ?_ GE830.out | refine below_set ?_ GE837.out) | exact HB.out)))
       rintro e w37 ⟨rfl, hb⟩
       refine ⟨_, rfl, ?_⟩
       have n0_ := Aside0.mk (blk_below (g := gb830) (o := .cells #[.int .i64 a0_0, .int .u64 a0_1, .int .u64 a0_2, .int .u64 a0_3, .int .u64 a0_4] 25 (0, 0)) (by (with_reducible repeat (first | apply bN_ | apply bD_ | apply bA_)); exact BK830.out) hb)
       have n1_ := Aside0.mk (blk_below (g := gb837) (o := .cells #[.int .i64 t832, .int .u64 t833, .int .u64 t834, .int .u64 t835, .int .u64 t836] 29 (0, 0)) (by (with_reducible repeat (first | apply bN_ | apply bD_ | apply bA_)); exact BK837.out) hb)
       have n2_ := Aside0.mk (below_step (by repeat (first | (with_reducible first | exact HB.out | apply ba_ | apply bn_ | apply bd_ | refine below_set ?_ GE830.out | refine below_set ?_ GE837.out) | exact HB.out)) hb)
       clear BK830
       clear BK837
       clear HB
       have BK830 := n0_
       have BK837 := n1_
       have HB := n2_
       clear n0_ n1_ n2_
       (try clear hb)
       (try clear hb2)
       (try clear hk)
       (try clear hi)
       refine hK.out _ _ ⟨(blk_cell BK837.out 0).trans rfl, (blk_cell BK837.out 1).trans rfl, (blk_cell BK837.out 2).trans rfl, (blk_cell BK837.out 3).trans rfl, (blk_cell BK837.out 4).trans rfl⟩ (fun hHeld => ?_)
       clear hK K
       refine norm_ (a' := ?_) ?_ ?_
       rotate_left
       ·
        show Act.put _ (some 33) _ = _
        simp only [Act.put, List.setIfInBounds_toArray, List.set_cons_zero, List.set_cons_succ, i64_w, i32_w]
        rfl
       refine pure_ (i := 13) (N := some 34) (v := ?_) (a' := ?_) #[true, true, true, true, true, true, true, true, true, true, true, true, true, true, false, false, false, false, false, false, false, false, false, false, false, false, false, false] rfl rfl (any_of HT_.out (by kernel_rfl)) (fun _ _ _ h => h) (Or.inl ⟨by rfl, ?_⟩) ?_ ?_
       rotate_left
       ·
        intro w'
        go_simp
        with_reducible rfl
       rotate_left
       ·
        simp only [Act.put, List.setIfInBounds_toArray, List.set_cons_zero, List.set_cons_succ, i64_w, i32_w]
        rfl
       refine pure_ (i := 14) (N := some 35) (v := ?_) (a' := ?_) #[true, true, true, true, true, true, true, true, true, true, true, true, true, true, true, false, false, false, false, false, false, false, false, false, false, false, false, false] rfl rfl (any_of HT_.out (by kernel_rfl)) (fun _ _ _ h => h) (Or.inl ⟨by rfl, ?_⟩) ?_ ?_
       rotate_left
       ·
        intro w'
        go_simp
        with_reducible rfl
       rotate_left
       ·
        simp only [Act.put, List.setIfInBounds_toArray, List.set_cons_zero, List.set_cons_succ, i64_w, i32_w]
        rfl
       refine pure_ (i := 15) (N := some 36) (v := ?_) (a' := ?_) #[true, true, true, true, true, true, true, true, true, true, true, true, true, true, true, true, false, false, false, false, false, false, false, false, false, false, false, false] rfl rfl (any_of HT_.out (by kernel_rfl)) (fun _ _ _ h => h) (Or.inl ⟨by rfl, ?_⟩) ?_ ?_
       rotate_left
       ·
        intro w'
        go_simp
        with_reducible rfl
       rotate_left
       ·
        simp only [Act.put, List.setIfInBounds_toArray, List.set_cons_zero, List.set_cons_succ, i64_w, i32_w]
        rfl
       refine pure_ (i := 17) (N := some 38) (v := ?_) (a' := ?_) #[true, true, true, true, true, true, true, true, true, true, true, true, true, true, true, true, false, true, false, false, false, false, false, false, false, false, false, false] rfl rfl (any_of HT_.out (by kernel_rfl)) (fun _ _ _ h => h) (Or.inl ⟨by rfl, ?_⟩) ?_ ?_
       rotate_left
       ·
        intro w'
        go_simp
        with_reducible rfl
       rotate_left
       ·
        simp only [Act.put, List.setIfInBounds_toArray, List.set_cons_zero, List.set_cons_succ, i64_w, i32_w]
        rfl
       refine take_ (i := 16) (N := some 37) (v := ?_) (a' := ?_) #[true, true, true, true, true, true, true, true, true, true, true, true, true, true, true, true, true, true, false, false, false, false, false, false, false, false, false, false] rfl rfl (take_ofW HT_.out HW_.out (by kernel_rfl)) (fun _ _ _ h => h) (Or.inl ⟨by rfl, ?_⟩) hHeld ?_ ?_
       rotate_left
       ·
        rintro w' ⟨s0, s1, s2, s3, s4⟩
        go_simp
        with_reducible rfl
       rotate_left
       ·
        simp only [Act.put, List.setIfInBounds_toArray, List.set_cons_zero, List.set_cons_succ, i64_w, i32_w]
        rfl
       refine one_ (i := 18) (N := some 39) #[true, true, true, true, true, true, true, true, true, true, true, true, true, true, true, true, true, true, true, false, false, false, false, false, false, false, false, false] rfl rfl (one_of HT_.out (by kernel_rfl)) (by decide) (fun K hK => ?_)
       refine goes_ Tryd.func16 (by kernel_rfl) rfl #[.int .i64 (Int.tmod (Go.bits .and .i64 a1 255) 12)] (by rfl) rfl rfl (by (try simp only [List.map_toArray, List.map_cons, List.map_nil]); first | done | rfl | (simp only [List.length_drop, List.length_take]; rfl)) ?_
       with_reducible refine (axis_Operator_Back.calls (Int.tmod (Go.bits .and .i64 a1 255) 12) t842 _ A22.out).mono ?_
       rintro e w' ⟨rfl, ⟨nd, rfl⟩⟩
       refine ⟨_, rfl, ?_⟩
       refine hK.out _ _ ⟨(blk_cell BK837.out 0).trans rfl, (blk_cell BK837.out 1).trans rfl, (blk_cell BK837.out 2).trans rfl, (blk_cell BK837.out 3).trans rfl, (blk_cell BK837.out 4).trans rfl⟩ (fun hHeld => ?_)
       clear hK K
       refine norm_ (a' := ?_) ?_ ?_
       rotate_left
       ·
        show Act.put _ (some 39) _ = _
        simp only [Act.put, List.setIfInBounds_toArray, List.set_cons_zero, List.set_cons_succ, i64_w, i32_w]
        rfl
       refine one_ (i := 19) (N := some 40) #[true, true, true, true, true, true, true, true, true, true, true, true, true, true, true, true, true, true, true, true, false, false, false, false, false, false, false, false] rfl rfl (one_of HT_.out (by kernel_rfl)) (by decide) (fun K hK => ?_)
       refine goes_ Tryd.func18 (by kernel_rfl) rfl #[.agg #[.int .i64 t832, .int .u64 t833, .int .u64 t834, .int .u64 t835, .int .u64 t836], .int .i64 t842] (by rfl) rfl rfl (by (try simp only [List.map_toArray, List.map_cons, List.map_nil]); first | done | rfl | (simp only [List.length_drop, List.length_take]; rfl)) ?_
       with_reducible refine (iso_Keeps.calls k t832 t833 t834 t835 t836 t842 false _ ?side1 A23.out).mono ?_
       (case side1 => exact HGSix.out.below (by repeat (first | (with_reducible first | exact HB.out | apply ba_ | apply bn_ | apply bd_ | refine below_set ?_ GE830.out | refine below_set ?_ GE837.out) | exact HB.out)))
       rintro e w38 ⟨rfl, hb⟩
       refine ⟨_, rfl, ?_⟩
       have n0_ := Aside0.mk (blk_below (g := gb830) (o := .cells #[.int .i64 a0_0, .int .u64 a0_1, .int .u64 a0_2, .int .u64 a0_3, .int .u64 a0_4] 25 (0, 0)) (by (with_reducible repeat (first | apply bN_ | apply bD_ | apply bA_)); exact BK830.out) hb)
       have n1_ := Aside0.mk (blk_below (g := gb837) (o := .cells #[.int .i64 t832, .int .u64 t833, .int .u64 t834, .int .u64 t835, .int .u64 t836] 29 (0, 0)) (by (with_reducible repeat (first | apply bN_ | apply bD_ | apply bA_)); exact BK837.out) hb)
       have n2_ := Aside0.mk (below_step (by repeat (first | (with_reducible first | exact HB.out | apply ba_ | apply bn_ | apply bd_ | refine below_set ?_ GE830.out | refine below_set ?_ GE837.out) | exact HB.out)) hb)
       clear BK830
       clear BK837
       clear HB
       have BK830 := n0_
       have BK837 := n1_
       have HB := n2_
       clear n0_ n1_ n2_
       (try clear hb)
       (try clear hb2)
       (try clear hk)
       (try clear hi)
       refine hK.out _ _ ⟨(blk_cell BK837.out 0).trans rfl, (blk_cell BK837.out 1).trans rfl, (blk_cell BK837.out 2).trans rfl, (blk_cell BK837.out 3).trans rfl, (blk_cell BK837.out 4).trans rfl⟩ (fun hHeld => ?_)
       clear hK K
       refine norm_ (a' := ?_) ?_ ?_
       rotate_left
       ·
        show Act.put _ (some 40) _ = _
        simp only [Act.put, List.setIfInBounds_toArray, List.set_cons_zero, List.set_cons_succ, i64_w, i32_w]
        rfl
       refine pure_ (i := 20) (N := some 41) (v := ?_) (a' := ?_) #[true, true, true, true, true, true, true, true, true, true, true, true, true, true, true, true, true, true, true, true, true, false, false, false, false, false, false, false] rfl rfl (any_of HT_.out (by kernel_rfl)) (fun _ _ _ h => h) (Or.inl ⟨by rfl, ?_⟩) ?_ ?_
       rotate_left
       ·
        intro w'
        go_simp
        with_reducible rfl
       rotate_left
       ·
        simp only [Act.put, List.setIfInBounds_toArray, List.set_cons_zero, List.set_cons_succ, i64_w, i32_w]
        rfl
       refine pure_ (i := 21) (N := some 42) (v := ?_) (a' := ?_) #[true, true, true, true, true, true, true, true, true, true, true, true, true, true, true, true, true, true, true, true, true, true, false, false, false, false, false, false] rfl rfl (any_of HT_.out (by kernel_rfl)) (fun _ _ _ h => h) (Or.inl ⟨by rfl, ?_⟩) ?_ ?_
       rotate_left
       ·
        intro w'
        go_simp
        with_reducible rfl
       rotate_left
       ·
        simp only [Act.put, List.setIfInBounds_toArray, List.set_cons_zero, List.set_cons_succ, i64_w, i32_w]
        rfl
       refine pure_ (i := 22) (N := some 43) (v := ?_) (a' := ?_) #[true, true, true, true, true, true, true, true, true, true, true, true, true, true, true, true, true, true, true, true, true, true, true, false, false, false, false, false] rfl rfl (any_of HT_.out (by kernel_rfl)) (fun _ _ _ h => h) (Or.inl ⟨by rfl, ?_⟩) ?_ ?_
       rotate_left
       ·
        intro w'
        go_simp
        with_reducible rfl
       rotate_left
       ·
        simp only [Act.put, List.setIfInBounds_toArray, List.set_cons_zero, List.set_cons_succ, i64_w, i32_w]
        rfl
       refine pure_ (i := 23) (N := some 44) (v := ?_) (a' := ?_) #[true, true, true, true, true, true, true, true, true, true, true, true, true, true, true, true, true, true, true, true, true, true, true, true, false, false, false, false] rfl rfl (any_of HT_.out (by kernel_rfl)) (fun _ _ _ h => h) (Or.inl ⟨by rfl, ?_⟩) ?_ ?_
       rotate_left
       ·
        intro w'
        go_simp
        with_reducible rfl
       rotate_left
       ·
        simp only [Act.put, List.setIfInBounds_toArray, List.set_cons_zero, List.set_cons_succ, i64_w, i32_w]
        rfl
       refine pure_ (i := 24) (N := some 45) (v := undef) (a' := ?_) #[true, true, true, true, true, true, true, true, true, true, true, true, true, true, true, true, true, true, true, true, true, true, true, true, true, false, false, false] rfl rfl (any_of HT_.out (by kernel_rfl)) (fun _ _ _ h => h) (Or.inr ⟨by rfl, rfl⟩) ?_ ?_
       rotate_left
       ·
        simp only [Act.put, List.setIfInBounds_toArray, List.set_cons_zero, List.set_cons_succ, i64_w, i32_w]
        rfl
       refine pure_ (i := 25) (N := some 46) (v := undef) (a' := ?_) #[true, true, true, true, true, true, true, true, true, true, true, true, true, true, true, true, true, true, true, true, true, true, true, true, true, true, false, false] rfl rfl (any_of HT_.out (by kernel_rfl)) (fun _ _ _ h => h) (Or.inr ⟨by rfl, rfl⟩) ?_ ?_
       rotate_left
       ·
        simp only [Act.put, List.setIfInBounds_toArray, List.set_cons_zero, List.set_cons_succ, i64_w, i32_w]
        rfl
       refine pure_ (i := 26) (N := some 47) (v := undef) (a' := ?_) #[true, true, true, true, true, true, true, true, true, true, true, true, true, true, true, true, true, true, true, true, true, true, true, true, true, true, true, false] rfl rfl (any_of HT_.out (by kernel_rfl)) (fun _ _ _ h => h) (Or.inr ⟨by rfl, rfl⟩) ?_ ?_
       rotate_left
       ·
        simp only [Act.put, List.setIfInBounds_toArray, List.set_cons_zero, List.set_cons_succ, i64_w, i32_w]
        rfl
       refine pure_ (i := 27) (N := some 48) (v := ?_) (a' := ?_) #[true, true, true, true, true, true, true, true, true, true, true, true, true, true, true, true, true, true, true, true, true, true, true, true, true, true, true, true] rfl rfl (any_of HT_.out (by kernel_rfl)) (fun _ _ _ h => h) (Or.inl ⟨by rfl, ?_⟩) ?_ ?_
       rotate_left
       ·
        intro w'
        go_simp
        with_reducible rfl
       rotate_left
       ·
        simp only [Act.put, List.setIfInBounds_toArray, List.set_cons_zero, List.set_cons_succ, i64_w, i32_w]
        rfl
       refine done_ (done_of HT_.out (by kernel_rfl)) ?_
       try go_wp2
       go_meet
       case rel => exact ⟨_, (true), (by first | rfl | (simp; done) | (simp [*]; done)), H', ⟨by first | omega | exact Nat.le_refl _⟩, ⟨by (with_reducible repeat (first | apply bN_ | apply bD_ | apply bA_)); exact BK830.out⟩, ⟨by (with_reducible repeat (first | apply bN_ | apply bD_ | apply bA_)); exact BK837.out⟩, ⟨by repeat (first | (with_reducible first | exact HB.out | apply ba_ | apply bn_ | apply bd_ | refine below_set ?_ GE830.out | refine below_set ?_ GE837.out) | exact HB.out)⟩⟩
     ·
      replace c21 := Bool.eq_false_iff.mpr c21
      subst c21
      have H1 : (honeycomblaw07_IsoGroup.j0 k (Int.tmod (Go.bits .and .i64 a1 255) 12) true t832 t833 t834 t835 t836) = some r := by rw [if_neg (show ¬ (false = true) by decide)] at H; exact H
      clear H
      have H := H1
      clear H1
      have H' := Aside0.mk H
      clear H
      try go_wp2
      have n0_ : Aside0 ((((((w12.setCell ⟨gb837, 0, none⟩ (.int .i64 t832)).setCell ⟨gb837, 1, none⟩ (.int .u64 t833)).setCell ⟨gb837, 2, none⟩ (.int .u64 t834)).setCell ⟨gb837, 3, none⟩ (.int .u64 t835)).setCell ⟨gb837, 4, none⟩ (.int .u64 t836)).heap[gb830]? = some (.cells #[.int .i64 a0_0, .int .u64 a0_1, .int .u64 a0_2, .int .u64 a0_3, .int .u64 a0_4] 25 (0, 0))) := ⟨by (with_reducible repeat (first | apply bN_ | apply bD_ | apply bA_)); refine blk_far ?_ NB830_837.out _; (with_reducible repeat (first | apply bN_ | apply bD_ | apply bA_)); refine blk_far ?_ NB830_837.out _; (with_reducible repeat (first | apply bN_ | apply bD_ | apply bA_)); refine blk_far ?_ NB830_837.out _; (with_reducible repeat (first | apply bN_ | apply bD_ | apply bA_)); refine blk_far ?_ NB830_837.out _; (with_reducible repeat (first | apply bN_ | apply bD_ | apply bA_)); refine blk_far ?_ NB830_837.out _; (with_reducible repeat (first | apply bN_ | apply bD_ | apply bA_)); exact BK830.out⟩
      have n1_ : Aside0 ((((((w12.setCell ⟨gb837, 0, none⟩ (.int .i64 t832)).setCell ⟨gb837, 1, none⟩ (.int .u64 t833)).setCell ⟨gb837, 2, none⟩ (.int .u64 t834)).setCell ⟨gb837, 3, none⟩ (.int .u64 t835)).setCell ⟨gb837, 4, none⟩ (.int .u64 t836)).heap[gb837]? = some (.cells #[.int .i64 t832, .int .u64 t833, .int .u64 t834, .int .u64 t835, .int .u64 t836] 29 (0, 0))) := ⟨by (with_reducible repeat (first | apply bN_ | apply bD_ | apply bA_)); refine blk_put (cs := #[.int .i64 t832, .int .u64 t833, .int .u64 t834, .int .u64 t835, .int .u64 0]) ?_ 4 _ rfl; (with_reducible repeat (first | apply bN_ | apply bD_ | apply bA_)); refine blk_put (cs := #[.int .i64 t832, .int .u64 t833, .int .u64 t834, .int .u64 0, .int .u64 0]) ?_ 3 _ rfl; (with_reducible repeat (first | apply bN_ | apply bD_ | apply bA_)); refine blk_put (cs := #[.int .i64 t832, .int .u64 t833, .int .u64 0, .int .u64 0, .int .u64 0]) ?_ 2 _ rfl; (with_reducible repeat (first | apply bN_ | apply bD_ | apply bA_)); refine blk_put (cs := #[.int .i64 t832, .int .u64 0, .int .u64 0, .int .u64 0, .int .u64 0]) ?_ 1 _ rfl; (with_reducible repeat (first | apply bN_ | apply bD_ | apply bA_)); refine blk_put (cs := #[.int .i64 0, .int .u64 0, .int .u64 0, .int .u64 0, .int .u64 0]) ?_ 0 _ rfl; (with_reducible repeat (first | apply bN_ | apply bD_ | apply bA_)); exact BK837.out⟩
      have n2_ : Aside0 (Below w.heap.size w (((((w12.setCell ⟨gb837, 0, none⟩ (.int .i64 t832)).setCell ⟨gb837, 1, none⟩ (.int .u64 t833)).setCell ⟨gb837, 2, none⟩ (.int .u64 t834)).setCell ⟨gb837, 3, none⟩ (.int .u64 t835)).setCell ⟨gb837, 4, none⟩ (.int .u64 t836))) := ⟨by repeat (first | (with_reducible first | exact HB.out | apply ba_ | apply bn_ | apply bd_ | refine below_set ?_ GE830.out | refine below_set ?_ GE837.out) | exact HB.out)⟩
      (try clear BK830)
      (try clear BK837)
      (try clear HB)
      generalize (((((w12.setCell ⟨gb837, 0, none⟩ (.int .i64 t832)).setCell ⟨gb837, 1, none⟩ (.int .u64 t833)).setCell ⟨gb837, 2, none⟩ (.int .u64 t834)).setCell ⟨gb837, 3, none⟩ (.int .u64 t835)).setCell ⟨gb837, 4, none⟩ (.int .u64 t836)) = w39 at n0_ n1_ n2_ ⊢
      have BK830 := n0_
      have BK837 := n1_
      have HB := n2_
      clear n0_ n1_ n2_
      have n0_ := Aside0.mk (blk_drew BK830.out)
      have n1_ := Aside0.mk (blk_drew BK837.out)
      have n2_ := Aside0.mk (below_drew1 HB.out)
      clear BK830
      clear BK837
      clear HB
      have BK830 := n0_
      have BK837 := n1_
      have HB := n2_
      clear n0_ n1_ n2_
      refine start_ (n := 28) (S := fun w' => w'.cell? ⟨gb837, 0, none⟩ = some (.int .i64 t832) ∧ w'.cell? ⟨gb837, 1, none⟩ = some (.int .u64 t833) ∧ w'.cell? ⟨gb837, 2, none⟩ = some (.int .u64 t834) ∧ w'.cell? ⟨gb837, 3, none⟩ = some (.int .u64 t835) ∧ w'.cell? ⟨gb837, 4, none⟩ = some (.int .u64 t836)) (ds := []) #[false, false, false, false, false, false, false, false, false, false, false, false, false, false, false, false, false, false, false, false, false, false, false, false, false, false, false, false] (by kernel_rfl) rfl rfl ⟨(blk_cell BK837.out 0).trans rfl, (blk_cell BK837.out 1).trans rfl, (blk_cell BK837.out 2).trans rfl, (blk_cell BK837.out 3).trans rfl, (blk_cell BK837.out 4).trans rfl⟩ (fun hHeld => ?_); refine with_tabW honeycomblaw07_IsoGroup.tab5 honeycomblaw07_IsoGroup.bits5 (fun HT_ HW_ => ?_)
      generalize w39.drew = w40 at BK830 BK837 HB hHeld ⊢
      refine pure_ (i := 1) (N := some 22) (v := ?_) (a' := ?_) #[false, true, false, false, false, false, false, false, false, false, false, false, false, false, false, false, false, false, false, false, false, false, false, false, false, false, false, false] rfl rfl (any_of HT_.out (by kernel_rfl)) (fun _ _ _ h => h) (Or.inl ⟨by rfl, ?_⟩) ?_ ?_
      rotate_left
      ·
       intro w'
       go_simp
       with_reducible rfl
      rotate_left
      ·
       simp only [Act.put, List.setIfInBounds_toArray, List.set_cons_zero, List.set_cons_succ, i64_w, i32_w]
       rfl
      refine take_ (i := 0) (N := some 21) (v := ?_) (a' := ?_) #[true, true, false, false, false, false, false, false, false, false, false, false, false, false, false, false, false, false, false, false, false, false, false, false, false, false, false, false] rfl rfl (take_ofW HT_.out HW_.out (by kernel_rfl)) (fun _ _ _ h => h) (Or.inl ⟨by rfl, ?_⟩) hHeld ?_ ?_
      rotate_left
      ·
       rintro w' ⟨s0, s1, s2, s3, s4⟩
       go_simp
       with_reducible rfl
      rotate_left
      ·
       simp only [Act.put, List.setIfInBounds_toArray, List.set_cons_zero, List.set_cons_succ, i64_w, i32_w]
       rfl
      refine one_ (i := 2) (N := some 23) #[true, true, true, false, false, false, false, false, false, false, false, false, false, false, false, false, false, false, false, false, false, false, false, false, false, false, false, false] rfl rfl (one_of HT_.out (by kernel_rfl)) (by decide) (fun K hK => ?_)
      refine goes_ Tryd.func18 (by kernel_rfl) rfl #[.agg #[.int .i64 t832, .int .u64 t833, .int .u64 t834, .int .u64 t835, .int .u64 t836], .int .i64 (Int.tmod (Go.bits .and .i64 a1 255) 12)] (by rfl) rfl rfl (by (try simp only [List.map_toArray, List.map_cons, List.map_nil]); first | done | rfl | (simp only [List.length_drop, List.length_take]; rfl)) ?_
      with_reducible refine (iso_Keeps.calls k t832 t833 t834 t835 t836 (Int.tmod (Go.bits .and .i64 a1 255) 12) true _ ?side1 A15.out).mono ?_
      (case side1 => exact HGSix.out.below (by repeat (first | (with_reducible first | exact HB.out | apply ba_ | apply bn_ | apply bd_ | refine below_set ?_ GE830.out | refine below_set ?_ GE837.out) | exact HB.out)))
      rintro e w41 ⟨rfl, hb⟩
      refine ⟨_, rfl, ?_⟩
      have n0_ := Aside0.mk (blk_below (g := gb830) (o := .cells #[.int .i64 a0_0, .int .u64 a0_1, .int .u64 a0_2, .int .u64 a0_3, .int .u64 a0_4] 25 (0, 0)) (by (with_reducible repeat (first | apply bN_ | apply bD_ | apply bA_)); exact BK830.out) hb)
      have n1_ := Aside0.mk (blk_below (g := gb837) (o := .cells #[.int .i64 t832, .int .u64 t833, .int .u64 t834, .int .u64 t835, .int .u64 t836] 29 (0, 0)) (by (with_reducible repeat (first | apply bN_ | apply bD_ | apply bA_)); exact BK837.out) hb)
      have n2_ := Aside0.mk (below_step (by repeat (first | (with_reducible first | exact HB.out | apply ba_ | apply bn_ | apply bd_ | refine below_set ?_ GE830.out | refine below_set ?_ GE837.out) | exact HB.out)) hb)
      clear BK830
      clear BK837
      clear HB
      have BK830 := n0_
      have BK837 := n1_
      have HB := n2_
      clear n0_ n1_ n2_
      (try clear hb)
      (try clear hb2)
      (try clear hk)
      (try clear hi)
      refine hK.out _ _ ⟨(blk_cell BK837.out 0).trans rfl, (blk_cell BK837.out 1).trans rfl, (blk_cell BK837.out 2).trans rfl, (blk_cell BK837.out 3).trans rfl, (blk_cell BK837.out 4).trans rfl⟩ (fun hHeld => ?_)
      clear hK K
      refine norm_ (a' := ?_) ?_ ?_
      rotate_left
      ·
       show Act.put _ (some 23) _ = _
       simp only [Act.put, List.setIfInBounds_toArray, List.set_cons_zero, List.set_cons_succ, i64_w, i32_w]
       rfl
      refine pure_ (i := 3) (N := some 24) (v := ?_) (a' := ?_) #[true, true, true, true, false, false, false, false, false, false, false, false, false, false, false, false, false, false, false, false, false, false, false, false, false, false, false, false] rfl rfl (any_of HT_.out (by kernel_rfl)) (fun _ _ _ h => h) (Or.inl ⟨by rfl, ?_⟩) ?_ ?_
      rotate_left
      ·
       intro w'
       go_simp
       with_reducible rfl
      rotate_left
      ·
       simp only [Act.put, List.setIfInBounds_toArray, List.set_cons_zero, List.set_cons_succ, i64_w, i32_w]
       rfl
      refine pure_ (i := 5) (N := some 26) (v := ?_) (a' := ?_) #[true, true, true, true, false, true, false, false, false, false, false, false, false, false, false, false, false, false, false, false, false, false, false, false, false, false, false, false] rfl rfl (any_of HT_.out (by kernel_rfl)) (fun _ _ _ h => h) (Or.inl ⟨by rfl, ?_⟩) ?_ ?_
      rotate_left
      ·
       intro w'
       go_simp
       with_reducible rfl
      rotate_left
      ·
       simp only [Act.put, List.setIfInBounds_toArray, List.set_cons_zero, List.set_cons_succ, i64_w, i32_w]
       rfl
      refine take_ (i := 4) (N := some 25) (v := ?_) (a' := ?_) #[true, true, true, true, true, true, false, false, false, false, false, false, false, false, false, false, false, false, false, false, false, false, false, false, false, false, false, false] rfl rfl (take_ofW HT_.out HW_.out (by kernel_rfl)) (fun _ _ _ h => h) (Or.inl ⟨by rfl, ?_⟩) hHeld ?_ ?_
      rotate_left
      ·
       rintro w' ⟨s0, s1, s2, s3, s4⟩
       go_simp
       with_reducible rfl
      rotate_left
      ·
       simp only [Act.put, List.setIfInBounds_toArray, List.set_cons_zero, List.set_cons_succ, i64_w, i32_w]
       rfl
      refine one_ (i := 6) (N := some 27) #[true, true, true, true, true, true, true, false, false, false, false, false, false, false, false, false, false, false, false, false, false, false, false, false, false, false, false, false] rfl rfl (one_of HT_.out (by kernel_rfl)) (by decide) (fun K hK => ?_)
      refine goes_ Tryd.func18 (by kernel_rfl) rfl #[.agg #[.int .i64 t832, .int .u64 t833, .int .u64 t834, .int .u64 t835, .int .u64 t836], .int .i64 (Int.tmod (Go.bits .and .i64 a2 255) 12)] (by rfl) rfl rfl (by (try simp only [List.map_toArray, List.map_cons, List.map_nil]); first | done | rfl | (simp only [List.length_drop, List.length_take]; rfl)) ?_
      with_reducible refine (iso_Keeps.calls k t832 t833 t834 t835 t836 (Int.tmod (Go.bits .and .i64 a2 255) 12) true _ ?side1 A17.out).mono ?_
      (case side1 => exact HGSix.out.below (by repeat (first | (with_reducible first | exact HB.out | apply ba_ | apply bn_ | apply bd_ | refine below_set ?_ GE830.out | refine below_set ?_ GE837.out) | exact HB.out)))
      rintro e w42 ⟨rfl, hb⟩
      refine ⟨_, rfl, ?_⟩
      have n0_ := Aside0.mk (blk_below (g := gb830) (o := .cells #[.int .i64 a0_0, .int .u64 a0_1, .int .u64 a0_2, .int .u64 a0_3, .int .u64 a0_4] 25 (0, 0)) (by (with_reducible repeat (first | apply bN_ | apply bD_ | apply bA_)); exact BK830.out) hb)
      have n1_ := Aside0.mk (blk_below (g := gb837) (o := .cells #[.int .i64 t832, .int .u64 t833, .int .u64 t834, .int .u64 t835, .int .u64 t836] 29 (0, 0)) (by (with_reducible repeat (first | apply bN_ | apply bD_ | apply bA_)); exact BK837.out) hb)
      have n2_ := Aside0.mk (below_step (by repeat (first | (with_reducible first | exact HB.out | apply ba_ | apply bn_ | apply bd_ | refine below_set ?_ GE830.out | refine below_set ?_ GE837.out) | exact HB.out)) hb)
      clear BK830
      clear BK837
      clear HB
      have BK830 := n0_
      have BK837 := n1_
      have HB := n2_
      clear n0_ n1_ n2_
      (try clear hb)
      (try clear hb2)
      (try clear hk)
      (try clear hi)
      refine hK.out _ _ ⟨(blk_cell BK837.out 0).trans rfl, (blk_cell BK837.out 1).trans rfl, (blk_cell BK837.out 2).trans rfl, (blk_cell BK837.out 3).trans rfl, (blk_cell BK837.out 4).trans rfl⟩ (fun hHeld => ?_)
      clear hK K
      refine norm_ (a' := ?_) ?_ ?_
      rotate_left
      ·
       show Act.put _ (some 27) _ = _
       simp only [Act.put, List.setIfInBounds_toArray, List.set_cons_zero, List.set_cons_succ, i64_w, i32_w]
       rfl
      refine pure_ (i := 7) (N := some 28) (v := ?_) (a' := ?_) #[true, true, true, true, true, true, true, true, false, false, false, false, false, false, false, false, false, false, false, false, false, false, false, false, false, false, false, false] rfl rfl (any_of HT_.out (by kernel_rfl)) (fun _ _ _ h => h) (Or.inl ⟨by rfl, ?_⟩) ?_ ?_
      rotate_left
      ·
       intro w'
       go_simp
       with_reducible rfl
      rotate_left
      ·
       simp only [Act.put, List.setIfInBounds_toArray, List.set_cons_zero, List.set_cons_succ, i64_w, i32_w]
       rfl
      refine pure_ (i := 9) (N := some 30) (v := ?_) (a' := ?_) #[true, true, true, true, true, true, true, true, false, true, false, false, false, false, false, false, false, false, false, false, false, false, false, false, false, false, false, false] rfl rfl (any_of HT_.out (by kernel_rfl)) (fun _ _ _ h => h) (Or.inl ⟨by rfl, ?_⟩) ?_ ?_
      rotate_left
      ·
       intro w'
       go_simp
       with_reducible rfl
      rotate_left
      ·
       simp only [Act.put, List.setIfInBounds_toArray, List.set_cons_zero, List.set_cons_succ, i64_w, i32_w]
       rfl
      refine pure_ (i := 10) (N := some 31) (v := ?_) (a' := ?_) #[true, true, true, true, true, true, true, true, false, true, true, false, false, false, false, false, false, false, false, false, false, false, false, false, false, false, false, false] rfl rfl (any_of HT_.out (by kernel_rfl)) (fun _ _ _ h => h) (Or.inl ⟨by rfl, ?_⟩) ?_ ?_
      rotate_left
      ·
       intro w'
       go_simp
       with_reducible rfl
      rotate_left
      ·
       simp only [Act.put, List.setIfInBounds_toArray, List.set_cons_zero, List.set_cons_succ, i64_w, i32_w]
       rfl
      refine take_ (i := 8) (N := some 29) (v := ?_) (a' := ?_) #[true, true, true, true, true, true, true, true, true, true, true, false, false, false, false, false, false, false, false, false, false, false, false, false, false, false, false, false] rfl rfl (take_ofW HT_.out HW_.out (by kernel_rfl)) (fun _ _ _ h => h) (Or.inl ⟨by rfl, ?_⟩) hHeld ?_ ?_
      rotate_left
      ·
       rintro w' ⟨s0, s1, s2, s3, s4⟩
       go_simp
       with_reducible rfl
      rotate_left
      ·
       simp only [Act.put, List.setIfInBounds_toArray, List.set_cons_zero, List.set_cons_succ, i64_w, i32_w]
       rfl
      refine one_ (i := 11) (N := some 32) #[true, true, true, true, true, true, true, true, true, true, true, true, false, false, false, false, false, false, false, false, false, false, false, false, false, false, false, false] rfl rfl (one_of HT_.out (by kernel_rfl)) (by decide) (fun K hK => ?_)
      refine goes_ Tryd.func19 (by kernel_rfl) rfl #[.int .i64 (Int.tmod (Go.bits .and .i64 a1 255) 12), .int .i64 (Int.tmod (Go.bits .and .i64 a2 255) 12)] (by rfl) rfl rfl (by (try simp only [List.map_toArray, List.map_cons, List.map_nil]); first | done | rfl | (simp only [List.length_drop, List.length_take]; rfl)) ?_
      with_reducible refine (axis_Operator_Then.calls (Int.tmod (Go.bits .and .i64 a1 255) 12) (Int.tmod (Go.bits .and .i64 a2 255) 12) t840 _ A19.out).mono ?_
      rintro e w' ⟨rfl, ⟨nd, rfl⟩⟩
      refine ⟨_, rfl, ?_⟩
      refine hK.out _ _ ⟨(blk_cell BK837.out 0).trans rfl, (blk_cell BK837.out 1).trans rfl, (blk_cell BK837.out 2).trans rfl, (blk_cell BK837.out 3).trans rfl, (blk_cell BK837.out 4).trans rfl⟩ (fun hHeld => ?_)
      clear hK K
      refine norm_ (a' := ?_) ?_ ?_
      rotate_left
      ·
       show Act.put _ (some 32) _ = _
       simp only [Act.put, List.setIfInBounds_toArray, List.set_cons_zero, List.set_cons_succ, i64_w, i32_w]
       rfl
      refine one_ (i := 12) (N := some 33) #[true, true, true, true, true, true, true, true, true, true, true, true, true, false, false, false, false, false, false, false, false, false, false, false, false, false, false, false] rfl rfl (one_of HT_.out (by kernel_rfl)) (by decide) (fun K hK => ?_)
      refine goes_ Tryd.func18 (by kernel_rfl) rfl #[.agg #[.int .i64 t832, .int .u64 t833, .int .u64 t834, .int .u64 t835, .int .u64 t836], .int .i64 t840] (by rfl) rfl rfl (by (try simp only [List.map_toArray, List.map_cons, List.map_nil]); first | done | rfl | (simp only [List.length_drop, List.length_take]; rfl)) ?_
      with_reducible refine (iso_Keeps.calls k t832 t833 t834 t835 t836 t840 false _ ?side1 A20.out).mono ?_
      (case side1 => exact HGSix.out.below (by repeat (first | (with_reducible first | exact HB.out | apply ba_ | apply bn_ | apply bd_ | refine below_set ?_ GE830.out | refine below_set ?_ GE837.out) | exact HB.out)))
      rintro e w43 ⟨rfl, hb⟩
      refine ⟨_, rfl, ?_⟩
      have n0_ := Aside0.mk (blk_below (g := gb830) (o := .cells #[.int .i64 a0_0, .int .u64 a0_1, .int .u64 a0_2, .int .u64 a0_3, .int .u64 a0_4] 25 (0, 0)) (by (with_reducible repeat (first | apply bN_ | apply bD_ | apply bA_)); exact BK830.out) hb)
      have n1_ := Aside0.mk (blk_below (g := gb837) (o := .cells #[.int .i64 t832, .int .u64 t833, .int .u64 t834, .int .u64 t835, .int .u64 t836] 29 (0, 0)) (by (with_reducible repeat (first | apply bN_ | apply bD_ | apply bA_)); exact BK837.out) hb)
      have n2_ := Aside0.mk (below_step (by repeat (first | (with_reducible first | exact HB.out | apply ba_ | apply bn_ | apply bd_ | refine below_set ?_ GE830.out | refine below_set ?_ GE837.out) | exact HB.out)) hb)
      clear BK830
      clear BK837
      clear HB
      have BK830 := n0_
      have BK837 := n1_
      have HB := n2_
      clear n0_ n1_ n2_
      (try clear hb)
      (try clear hb2)
      (try clear hk)
      (try clear hi)
      refine hK.out _ _ ⟨(blk_cell BK837.out 0).trans rfl, (blk_cell BK837.out 1).trans rfl, (blk_cell BK837.out 2).trans rfl, (blk_cell BK837.out 3).trans rfl, (blk_cell BK837.out 4).trans rfl⟩ (fun hHeld => ?_)
      clear hK K
      refine norm_ (a' := ?_) ?_ ?_
      rotate_left
      ·
       show Act.put _ (some 33) _ = _
       simp only [Act.put, List.setIfInBounds_toArray, List.set_cons_zero, List.set_cons_succ, i64_w, i32_w]
       rfl
      refine pure_ (i := 13) (N := some 34) (v := ?_) (a' := ?_) #[true, true, true, true, true, true, true, true, true, true, true, true, true, true, false, false, false, false, false, false, false, false, false, false, false, false, false, false] rfl rfl (any_of HT_.out (by kernel_rfl)) (fun _ _ _ h => h) (Or.inl ⟨by rfl, ?_⟩) ?_ ?_
      rotate_left
      ·
       intro w'
       go_simp
       with_reducible rfl
      rotate_left
      ·
       simp only [Act.put, List.setIfInBounds_toArray, List.set_cons_zero, List.set_cons_succ, i64_w, i32_w]
       rfl
      refine pure_ (i := 14) (N := some 35) (v := ?_) (a' := ?_) #[true, true, true, true, true, true, true, true, true, true, true, true, true, true, true, false, false, false, false, false, false, false, false, false, false, false, false, false] rfl rfl (any_of HT_.out (by kernel_rfl)) (fun _ _ _ h => h) (Or.inl ⟨by rfl, ?_⟩) ?_ ?_
      rotate_left
      ·
       intro w'
       go_simp
       with_reducible rfl
      rotate_left
      ·
       simp only [Act.put, List.setIfInBounds_toArray, List.set_cons_zero, List.set_cons_succ, i64_w, i32_w]
       rfl
      refine pure_ (i := 15) (N := some 36) (v := ?_) (a' := ?_) #[true, true, true, true, true, true, true, true, true, true, true, true, true, true, true, true, false, false, false, false, false, false, false, false, false, false, false, false] rfl rfl (any_of HT_.out (by kernel_rfl)) (fun _ _ _ h => h) (Or.inl ⟨by rfl, ?_⟩) ?_ ?_
      rotate_left
      ·
       intro w'
       go_simp
       with_reducible rfl
      rotate_left
      ·
       simp only [Act.put, List.setIfInBounds_toArray, List.set_cons_zero, List.set_cons_succ, i64_w, i32_w]
       rfl
      refine pure_ (i := 16) (N := some 37) (v := undef) (a' := ?_) #[true, true, true, true, true, true, true, true, true, true, true, true, true, true, true, true, true, false, false, false, false, false, false, false, false, false, false, false] rfl rfl (any_of HT_.out (by kernel_rfl)) (fun _ _ _ h => h) (Or.inr ⟨by rfl, rfl⟩) ?_ ?_
      rotate_left
      ·
       simp only [Act.put, List.setIfInBounds_toArray, List.set_cons_zero, List.set_cons_succ, i64_w, i32_w]
       rfl
      refine pure_ (i := 17) (N := some 38) (v := undef) (a' := ?_) #[true, true, true, true, true, true, true, true, true, true, true, true, true, true, true, true, true, true, false, false, false, false, false, false, false, false, false, false] rfl rfl (any_of HT_.out (by kernel_rfl)) (fun _ _ _ h => h) (Or.inr ⟨by rfl, rfl⟩) ?_ ?_
      rotate_left
      ·
       simp only [Act.put, List.setIfInBounds_toArray, List.set_cons_zero, List.set_cons_succ, i64_w, i32_w]
       rfl
      refine pure_ (i := 18) (N := some 39) (v := undef) (a' := ?_) #[true, true, true, true, true, true, true, true, true, true, true, true, true, true, true, true, true, true, true, false, false, false, false, false, false, false, false, false] rfl rfl (any_of HT_.out (by kernel_rfl)) (fun _ _ _ h => h) (Or.inr ⟨by rfl, rfl⟩) ?_ ?_
      rotate_left
      ·
       simp only [Act.put, List.setIfInBounds_toArray, List.set_cons_zero, List.set_cons_succ, i64_w, i32_w]
       rfl
      refine pure_ (i := 19) (N := some 40) (v := undef) (a' := ?_) #[true, true, true, true, true, true, true, true, true, true, true, true, true, true, true, true, true, true, true, true, false, false, false, false, false, false, false, false] rfl rfl (any_of HT_.out (by kernel_rfl)) (fun _ _ _ h => h) (Or.inr ⟨by rfl, rfl⟩) ?_ ?_
      rotate_left
      ·
       simp only [Act.put, List.setIfInBounds_toArray, List.set_cons_zero, List.set_cons_succ, i64_w, i32_w]
       rfl
      refine pure_ (i := 20) (N := some 41) (v := undef) (a' := ?_) #[true, true, true, true, true, true, true, true, true, true, true, true, true, true, true, true, true, true, true, true, true, false, false, false, false, false, false, false] rfl rfl (any_of HT_.out (by kernel_rfl)) (fun _ _ _ h => h) (Or.inr ⟨by rfl, rfl⟩) ?_ ?_
      rotate_left
      ·
       simp only [Act.put, List.setIfInBounds_toArray, List.set_cons_zero, List.set_cons_succ, i64_w, i32_w]
       rfl
      refine pure_ (i := 21) (N := some 42) (v := ?_) (a' := ?_) #[true, true, true, true, true, true, true, true, true, true, true, true, true, true, true, true, true, true, true, true, true, true, false, false, false, false, false, false] rfl rfl (any_of HT_.out (by kernel_rfl)) (fun _ _ _ h => h) (Or.inl ⟨by rfl, ?_⟩) ?_ ?_
      rotate_left
      ·
       intro w'
       go_simp
       with_reducible rfl
      rotate_left
      ·
       simp only [Act.put, List.setIfInBounds_toArray, List.set_cons_zero, List.set_cons_succ, i64_w, i32_w]
       rfl
      refine pure_ (i := 22) (N := some 43) (v := ?_) (a' := ?_) #[true, true, true, true, true, true, true, true, true, true, true, true, true, true, true, true, true, true, true, true, true, true, true, false, false, false, false, false] rfl rfl (any_of HT_.out (by kernel_rfl)) (fun _ _ _ h => h) (Or.inl ⟨by rfl, ?_⟩) ?_ ?_
      rotate_left
      ·
       intro w'
       go_simp
       with_reducible rfl
      rotate_left
      ·
       simp only [Act.put, List.setIfInBounds_toArray, List.set_cons_zero, List.set_cons_succ, i64_w, i32_w]
       rfl
      refine pure_ (i := 23) (N := some 44) (v := ?_) (a' := ?_) #[true, true, true, true, true, true, true, true, true, true, true, true, true, true, true, true, true, true, true, true, true, true, true, true, false, false, false, false] rfl rfl (any_of HT_.out (by kernel_rfl)) (fun _ _ _ h => h) (Or.inl ⟨by rfl, ?_⟩) ?_ ?_
      rotate_left
      ·
       intro w'
       go_simp
       with_reducible rfl
      rotate_left
      ·
       simp only [Act.put, List.setIfInBounds_toArray, List.set_cons_zero, List.set_cons_succ, i64_w, i32_w]
       rfl
      refine pure_ (i := 24) (N := some 45) (v := undef) (a' := ?_) #[true, true, true, true, true, true, true, true, true, true, true, true, true, true, true, true, true, true, true, true, true, true, true, true, true, false, false, false] rfl rfl (any_of HT_.out (by kernel_rfl)) (fun _ _ _ h => h) (Or.inr ⟨by rfl, rfl⟩) ?_ ?_
      rotate_left
      ·
       simp only [Act.put, List.setIfInBounds_toArray, List.set_cons_zero, List.set_cons_succ, i64_w, i32_w]
       rfl
      refine pure_ (i := 25) (N := some 46) (v := undef) (a' := ?_) #[true, true, true, true, true, true, true, true, true, true, true, true, true, true, true, true, true, true, true, true, true, true, true, true, true, true, false, false] rfl rfl (any_of HT_.out (by kernel_rfl)) (fun _ _ _ h => h) (Or.inr ⟨by rfl, rfl⟩) ?_ ?_
      rotate_left
      ·
       simp only [Act.put, List.setIfInBounds_toArray, List.set_cons_zero, List.set_cons_succ, i64_w, i32_w]
       rfl
      refine pure_ (i := 26) (N := some 47) (v := undef) (a' := ?_) #[true, true, true, true, true, true, true, true, true, true, true, true, true, true, true, true, true, true, true, true, true, true, true, true, true, true, true, false] rfl rfl (any_of HT_.out (by kernel_rfl)) (fun _ _ _ h => h) (Or.inr ⟨by rfl, rfl⟩) ?_ ?_
      rotate_left
      ·
       simp only [Act.put, List.setIfInBounds_toArray, List.set_cons_zero, List.set_cons_succ, i64_w, i32_w]
       rfl
      refine pure_ (i := 27) (N := some 48) (v := ?_) (a' := ?_) #[true, true, true, true, true, true, true, true, true, true, true, true, true, true, true, true, true, true, true, true, true, true, true, true, true, true, true, true] rfl rfl (any_of HT_.out (by kernel_rfl)) (fun _ _ _ h => h) (Or.inl ⟨by rfl, ?_⟩) ?_ ?_
      rotate_left
      ·
       intro w'
       go_simp
       with_reducible rfl
      rotate_left
      ·
       simp only [Act.put, List.setIfInBounds_toArray, List.set_cons_zero, List.set_cons_succ, i64_w, i32_w]
       rfl
      refine done_ (done_of HT_.out (by kernel_rfl)) ?_
      try go_wp2
      go_meet
      case rel => exact ⟨_, (true), (by first | rfl | (simp; done) | (simp [*]; done)), H', ⟨by first | omega | exact Nat.le_refl _⟩, ⟨by (with_reducible repeat (first | apply bN_ | apply bD_ | apply bA_)); exact BK830.out⟩, ⟨by (with_reducible repeat (first | apply bN_ | apply bD_ | apply bA_)); exact BK837.out⟩, ⟨by repeat (first | (with_reducible first | exact HB.out | apply ba_ | apply bn_ | apply bd_ | refine below_set ?_ GE830.out | refine below_set ?_ GE837.out) | exact HB.out)⟩⟩
    ·
     replace c18 := Bool.eq_false_iff.mpr c18
     subst c18
     have H1 : ((axis_Operator_Back.f (Int.tmod (Go.bits .and .i64 a1 255) 12)).bind fun t845 => ((iso_Keeps.f k t832 t833 t834 t835 t836 t845).bind fun t846 => (if t846 = true then ((iso_Keeps.f k t832 t833 t834 t835 t836 0).bind fun t847 => (honeycomblaw07_IsoGroup.j0 k (Int.tmod (Go.bits .and .i64 a1 255) 12) (!t847) t832 t833 t834 t835 t836)) else (honeycomblaw07_IsoGroup.j0 k (Int.tmod (Go.bits .and .i64 a1 255) 12) true t832 t833 t834 t835 t836)))) = some r := by rw [if_neg (show ¬ (false = true) by decide)] at H; exact H
     clear H
     have H := H1
     clear H1
     replace H := Option.bind_eq_some_iff.mp H
     obtain ⟨t845, A440, H⟩ := H
     replace H : ((iso_Keeps.f k t832 t833 t834 t835 t836 t845).bind fun t846 => (if t846 = true then ((iso_Keeps.f k t832 t833 t834 t835 t836 0).bind fun t847 => (honeycomblaw07_IsoGroup.j0 k (Int.tmod (Go.bits .and .i64 a1 255) 12) (!t847) t832 t833 t834 t835 t836)) else (honeycomblaw07_IsoGroup.j0 k (Int.tmod (Go.bits .and .i64 a1 255) 12) true t832 t833 t834 t835 t836))) = some r := H
     have A44 := Aside0.mk A440
     clear A440
     replace H := Option.bind_eq_some_iff.mp H
     obtain ⟨t846, A450, H⟩ := H
     replace H : (if t846 = true then ((iso_Keeps.f k t832 t833 t834 t835 t836 0).bind fun t847 => (honeycomblaw07_IsoGroup.j0 k (Int.tmod (Go.bits .and .i64 a1 255) 12) (!t847) t832 t833 t834 t835 t836)) else (honeycomblaw07_IsoGroup.j0 k (Int.tmod (Go.bits .and .i64 a1 255) 12) true t832 t833 t834 t835 t836)) = some r := H
     have A45 := Aside0.mk A450
     clear A450
     by_cases c46 : t846 = true
     ·
      subst c46
      have H1 : ((iso_Keeps.f k t832 t833 t834 t835 t836 0).bind fun t847 => (honeycomblaw07_IsoGroup.j0 k (Int.tmod (Go.bits .and .i64 a1 255) 12) (!t847) t832 t833 t834 t835 t836)) = some r := by rw [if_pos rfl] at H; exact H
      clear H
      have H := H1
      clear H1
      replace H := Option.bind_eq_some_iff.mp H
      obtain ⟨t847, A470, H⟩ := H
      replace H : (honeycomblaw07_IsoGroup.j0 k (Int.tmod (Go.bits .and .i64 a1 255) 12) (!t847) t832 t833 t834 t835 t836) = some r := H
      have A47 := Aside0.mk A470
      clear A470
      have H' := Aside0.mk H
      clear H
      try go_wp2
      have n0_ : Aside0 ((((((w12.setCell ⟨gb837, 0, none⟩ (.int .i64 t832)).setCell ⟨gb837, 1, none⟩ (.int .u64 t833)).setCell ⟨gb837, 2, none⟩ (.int .u64 t834)).setCell ⟨gb837, 3, none⟩ (.int .u64 t835)).setCell ⟨gb837, 4, none⟩ (.int .u64 t836)).heap[gb830]? = some (.cells #[.int .i64 a0_0, .int .u64 a0_1, .int .u64 a0_2, .int .u64 a0_3, .int .u64 a0_4] 25 (0, 0))) := ⟨by (with_reducible repeat (first | apply bN_ | apply bD_ | apply bA_)); refine blk_far ?_ NB830_837.out _; (with_reducible repeat (first | apply bN_ | apply bD_ | apply bA_)); refine blk_far ?_ NB830_837.out _; (with_reducible repeat (first | apply bN_ | apply bD_ | apply bA_)); refine blk_far ?_ NB830_837.out _; (with_reducible repeat (first | apply bN_ | apply bD_ | apply bA_)); refine blk_far ?_ NB830_837.out _; (with_reducible repeat (first | apply bN_ | apply bD_ | apply bA_)); refine blk_far ?_ NB830_837.out _; (with_reducible repeat (first | apply bN_ | apply bD_ | apply bA_)); exact BK830.out⟩
      have n1_ : Aside0 ((((((w12.setCell ⟨gb837, 0, none⟩ (.int .i64 t832)).setCell ⟨gb837, 1, none⟩ (.int .u64 t833)).setCell ⟨gb837, 2, none⟩ (.int .u64 t834)).setCell ⟨gb837, 3, none⟩ (.int .u64 t835)).setCell ⟨gb837, 4, none⟩ (.int .u64 t836)).heap[gb837]? = some (.cells #[.int .i64 t832, .int .u64 t833, .int .u64 t834, .int .u64 t835, .int .u64 t836] 29 (0, 0))) := ⟨by (with_reducible repeat (first | apply bN_ | apply bD_ | apply bA_)); refine blk_put (cs := #[.int .i64 t832, .int .u64 t833, .int .u64 t834, .int .u64 t835, .int .u64 0]) ?_ 4 _ rfl; (with_reducible repeat (first | apply bN_ | apply bD_ | apply bA_)); refine blk_put (cs := #[.int .i64 t832, .int .u64 t833, .int .u64 t834, .int .u64 0, .int .u64 0]) ?_ 3 _ rfl; (with_reducible repeat (first | apply bN_ | apply bD_ | apply bA_)); refine blk_put (cs := #[.int .i64 t832, .int .u64 t833, .int .u64 0, .int .u64 0, .int .u64 0]) ?_ 2 _ rfl; (with_reducible repeat (first | apply bN_ | apply bD_ | apply bA_)); refine blk_put (cs := #[.int .i64 t832, .int .u64 0, .int .u64 0, .int .u64 0, .int .u64 0]) ?_ 1 _ rfl; (with_reducible repeat (first | apply bN_ | apply bD_ | apply bA_)); refine blk_put (cs := #[.int .i64 0, .int .u64 0, .int .u64 0, .int .u64 0, .int .u64 0]) ?_ 0 _ rfl; (with_reducible repeat (first | apply bN_ | apply bD_ | apply bA_)); exact BK837.out⟩
      have n2_ : Aside0 (Below w.heap.size w (((((w12.setCell ⟨gb837, 0, none⟩ (.int .i64 t832)).setCell ⟨gb837, 1, none⟩ (.int .u64 t833)).setCell ⟨gb837, 2, none⟩ (.int .u64 t834)).setCell ⟨gb837, 3, none⟩ (.int .u64 t835)).setCell ⟨gb837, 4, none⟩ (.int .u64 t836))) := ⟨by repeat (first | (with_reducible first | exact HB.out | apply ba_ | apply bn_ | apply bd_ | refine below_set ?_ GE830.out | refine below_set ?_ GE837.out) | exact HB.out)⟩
      (try clear BK830)
      (try clear BK837)
      (try clear HB)
      generalize (((((w12.setCell ⟨gb837, 0, none⟩ (.int .i64 t832)).setCell ⟨gb837, 1, none⟩ (.int .u64 t833)).setCell ⟨gb837, 2, none⟩ (.int .u64 t834)).setCell ⟨gb837, 3, none⟩ (.int .u64 t835)).setCell ⟨gb837, 4, none⟩ (.int .u64 t836)) = w48 at n0_ n1_ n2_ ⊢
      have BK830 := n0_
      have BK837 := n1_
      have HB := n2_
      clear n0_ n1_ n2_
      have n0_ := Aside0.mk (blk_drew BK830.out)
      have n1_ := Aside0.mk (blk_drew BK837.out)
      have n2_ := Aside0.mk (below_drew1 HB.out)
      clear BK830
      clear BK837
      clear HB
      have BK830 := n0_
      have BK837 := n1_
      have HB := n2_
      clear n0_ n1_ n2_
      refine start_ (n := 28) (S := fun w' => w'.cell? ⟨gb837, 0, none⟩ = some (.int .i64 t832) ∧ w'.cell? ⟨gb837, 1, none⟩ = some (.int .u64 t833) ∧ w'.cell? ⟨gb837, 2, none⟩ = some (.int .u64 t834) ∧ w'.cell? ⟨gb837, 3, none⟩ = some (.int .u64 t835) ∧ w'.cell? ⟨gb837, 4, none⟩ = some (.int .u64 t836)) (ds := []) #[false, false, false, false, false, false, false, false, false, false, false, false, false, false, false, false, false, false, false, false, false, false, false, false, false, false, false, false] (by kernel_rfl) rfl rfl ⟨(blk_cell BK837.out 0).trans rfl, (blk_cell BK837.out 1).trans rfl, (blk_cell BK837.out 2).trans rfl, (blk_cell BK837.out 3).trans rfl, (blk_cell BK837.out 4).trans rfl⟩ (fun hHeld => ?_); refine with_tabW honeycomblaw07_IsoGroup.tab5 honeycomblaw07_IsoGroup.bits5 (fun HT_ HW_ => ?_)
      generalize w48.drew = w49 at BK830 BK837 HB hHeld ⊢
      refine pure_ (i := 1) (N := some 22) (v := ?_) (a' := ?_) #[false, true, false, false, false, false, false, false, false, false, false, false, false, false, false, false, false, false, false, false, false, false, false, false, false, false, false, false] rfl rfl (any_of HT_.out (by kernel_rfl)) (fun _ _ _ h => h) (Or.inl ⟨by rfl, ?_⟩) ?_ ?_
      rotate_left
      ·
       intro w'
       go_simp
       with_reducible rfl
      rotate_left
      ·
       simp only [Act.put, List.setIfInBounds_toArray, List.set_cons_zero, List.set_cons_succ, i64_w, i32_w]
       rfl
      refine take_ (i := 0) (N := some 21) (v := ?_) (a' := ?_) #[true, true, false, false, false, false, false, false, false, false, false, false, false, false, false, false, false, false, false, false, false, false, false, false, false, false, false, false] rfl rfl (take_ofW HT_.out HW_.out (by kernel_rfl)) (fun _ _ _ h => h) (Or.inl ⟨by rfl, ?_⟩) hHeld ?_ ?_
      rotate_left
      ·
       rintro w' ⟨s0, s1, s2, s3, s4⟩
       go_simp
       with_reducible rfl
      rotate_left
      ·
       simp only [Act.put, List.setIfInBounds_toArray, List.set_cons_zero, List.set_cons_succ, i64_w, i32_w]
       rfl
      refine one_ (i := 2) (N := some 23) #[true, true, true, false, false, false, false, false, false, false, false, false, false, false, false, false, false, false, false, false, false, false, false, false, false, false, false, false] rfl rfl (one_of HT_.out (by kernel_rfl)) (by decide) (fun K hK => ?_)
      refine goes_ Tryd.func18 (by kernel_rfl) rfl #[.agg #[.int .i64 t832, .int .u64 t833, .int .u64 t834, .int .u64 t835, .int .u64 t836], .int .i64 (Int.tmod (Go.bits .and .i64 a1 255) 12)] (by rfl) rfl rfl (by (try simp only [List.map_toArray, List.map_cons, List.map_nil]); first | done | rfl | (simp only [List.length_drop, List.length_take]; rfl)) ?_
      with_reducible refine (iso_Keeps.calls k t832 t833 t834 t835 t836 (Int.tmod (Go.bits .and .i64 a1 255) 12) true _ ?side1 A15.out).mono ?_
      (case side1 => exact HGSix.out.below (by repeat (first | (with_reducible first | exact HB.out | apply ba_ | apply bn_ | apply bd_ | refine below_set ?_ GE830.out | refine below_set ?_ GE837.out) | exact HB.out)))
      rintro e w50 ⟨rfl, hb⟩
      refine ⟨_, rfl, ?_⟩
      have n0_ := Aside0.mk (blk_below (g := gb830) (o := .cells #[.int .i64 a0_0, .int .u64 a0_1, .int .u64 a0_2, .int .u64 a0_3, .int .u64 a0_4] 25 (0, 0)) (by (with_reducible repeat (first | apply bN_ | apply bD_ | apply bA_)); exact BK830.out) hb)
      have n1_ := Aside0.mk (blk_below (g := gb837) (o := .cells #[.int .i64 t832, .int .u64 t833, .int .u64 t834, .int .u64 t835, .int .u64 t836] 29 (0, 0)) (by (with_reducible repeat (first | apply bN_ | apply bD_ | apply bA_)); exact BK837.out) hb)
      have n2_ := Aside0.mk (below_step (by repeat (first | (with_reducible first | exact HB.out | apply ba_ | apply bn_ | apply bd_ | refine below_set ?_ GE830.out | refine below_set ?_ GE837.out) | exact HB.out)) hb)
      clear BK830
      clear BK837
      clear HB
      have BK830 := n0_
      have BK837 := n1_
      have HB := n2_
      clear n0_ n1_ n2_
      (try clear hb)
      (try clear hb2)
      (try clear hk)
      (try clear hi)
      refine hK.out _ _ ⟨(blk_cell BK837.out 0).trans rfl, (blk_cell BK837.out 1).trans rfl, (blk_cell BK837.out 2).trans rfl, (blk_cell BK837.out 3).trans rfl, (blk_cell BK837.out 4).trans rfl⟩ (fun hHeld => ?_)
      clear hK K
      refine norm_ (a' := ?_) ?_ ?_
      rotate_left
      ·
       show Act.put _ (some 23) _ = _
       simp only [Act.put, List.setIfInBounds_toArray, List.set_cons_zero, List.set_cons_succ, i64_w, i32_w]
       rfl
      refine pure_ (i := 3) (N := some 24) (v := ?_) (a' := ?_) #[true, true, true, true, false, false, false, false, false, false, false, false, false, false, false, false, false, false, false, false, false, false, false, false, false, false, false, false] rfl rfl (any_of HT_.out (by kernel_rfl)) (fun _ _ _ h => h) (Or.inl ⟨by rfl, ?_⟩) ?_ ?_
      rotate_left
      ·
       intro w'
       go_simp
       with_reducible rfl
      rotate_left
      ·
       simp only [Act.put, List.setIfInBounds_toArray, List.set_cons_zero, List.set_cons_succ, i64_w, i32_w]
       rfl
      refine pure_ (i := 5) (N := some 26) (v := ?_) (a' := ?_) #[true, true, true, true, false, true, false, false, false, false, false, false, false, false, false, false, false, false, false, false, false, false, false, false, false, false, false, false] rfl rfl (any_of HT_.out (by kernel_rfl)) (fun _ _ _ h => h) (Or.inl ⟨by rfl, ?_⟩) ?_ ?_
      rotate_left
      ·
       intro w'
       go_simp
       with_reducible rfl
      rotate_left
      ·
       simp only [Act.put, List.setIfInBounds_toArray, List.set_cons_zero, List.set_cons_succ, i64_w, i32_w]
       rfl
      refine take_ (i := 4) (N := some 25) (v := ?_) (a' := ?_) #[true, true, true, true, true, true, false, false, false, false, false, false, false, false, false, false, false, false, false, false, false, false, false, false, false, false, false, false] rfl rfl (take_ofW HT_.out HW_.out (by kernel_rfl)) (fun _ _ _ h => h) (Or.inl ⟨by rfl, ?_⟩) hHeld ?_ ?_
      rotate_left
      ·
       rintro w' ⟨s0, s1, s2, s3, s4⟩
       go_simp
       with_reducible rfl
      rotate_left
      ·
       simp only [Act.put, List.setIfInBounds_toArray, List.set_cons_zero, List.set_cons_succ, i64_w, i32_w]
       rfl
      refine one_ (i := 6) (N := some 27) #[true, true, true, true, true, true, true, false, false, false, false, false, false, false, false, false, false, false, false, false, false, false, false, false, false, false, false, false] rfl rfl (one_of HT_.out (by kernel_rfl)) (by decide) (fun K hK => ?_)
      refine goes_ Tryd.func18 (by kernel_rfl) rfl #[.agg #[.int .i64 t832, .int .u64 t833, .int .u64 t834, .int .u64 t835, .int .u64 t836], .int .i64 (Int.tmod (Go.bits .and .i64 a2 255) 12)] (by rfl) rfl rfl (by (try simp only [List.map_toArray, List.map_cons, List.map_nil]); first | done | rfl | (simp only [List.length_drop, List.length_take]; rfl)) ?_
      with_reducible refine (iso_Keeps.calls k t832 t833 t834 t835 t836 (Int.tmod (Go.bits .and .i64 a2 255) 12) false _ ?side1 A17.out).mono ?_
      (case side1 => exact HGSix.out.below (by repeat (first | (with_reducible first | exact HB.out | apply ba_ | apply bn_ | apply bd_ | refine below_set ?_ GE830.out | refine below_set ?_ GE837.out) | exact HB.out)))
      rintro e w51 ⟨rfl, hb⟩
      refine ⟨_, rfl, ?_⟩
      have n0_ := Aside0.mk (blk_below (g := gb830) (o := .cells #[.int .i64 a0_0, .int .u64 a0_1, .int .u64 a0_2, .int .u64 a0_3, .int .u64 a0_4] 25 (0, 0)) (by (with_reducible repeat (first | apply bN_ | apply bD_ | apply bA_)); exact BK830.out) hb)
      have n1_ := Aside0.mk (blk_below (g := gb837) (o := .cells #[.int .i64 t832, .int .u64 t833, .int .u64 t834, .int .u64 t835, .int .u64 t836] 29 (0, 0)) (by (with_reducible repeat (first | apply bN_ | apply bD_ | apply bA_)); exact BK837.out) hb)
      have n2_ := Aside0.mk (below_step (by repeat (first | (with_reducible first | exact HB.out | apply ba_ | apply bn_ | apply bd_ | refine below_set ?_ GE830.out | refine below_set ?_ GE837.out) | exact HB.out)) hb)
      clear BK830
      clear BK837
      clear HB
      have BK830 := n0_
      have BK837 := n1_
      have HB := n2_
      clear n0_ n1_ n2_
      (try clear hb)
      (try clear hb2)
      (try clear hk)
      (try clear hi)
      refine hK.out _ _ ⟨(blk_cell BK837.out 0).trans rfl, (blk_cell BK837.out 1).trans rfl, (blk_cell BK837.out 2).trans rfl, (blk_cell BK837.out 3).trans rfl, (blk_cell BK837.out 4).trans rfl⟩ (fun hHeld => ?_)
      clear hK K
      refine norm_ (a' := ?_) ?_ ?_
      rotate_left
      ·
       show Act.put _ (some 27) _ = _
       simp only [Act.put, List.setIfInBounds_toArray, List.set_cons_zero, List.set_cons_succ, i64_w, i32_w]
       rfl
      refine pure_ (i := 7) (N := some 28) (v := ?_) (a' := ?_) #[true, true, true, true, true, true, true, true, false, false, false, false, false, false, false, false, false, false, false, false, false, false, false, false, false, false, false, false] rfl rfl (any_of HT_.out (by kernel_rfl)) (fun _ _ _ h => h) (Or.inl ⟨by rfl, ?_⟩) ?_ ?_
      rotate_left
      ·
       intro w'
       go_simp
       with_reducible rfl
      rotate_left
      ·
       simp only [Act.put, List.setIfInBounds_toArray, List.set_cons_zero, List.set_cons_succ, i64_w, i32_w]
       rfl
      refine pure_ (i := 8) (N := some 29) (v := undef) (a' := ?_) #[true, true, true, true, true, true, true, true, true, false, false, false, false, false, false, false, false, false, false, false, false, false, false, false, false, false, false, false] rfl rfl (any_of HT_.out (by kernel_rfl)) (fun _ _ _ h => h) (Or.inr ⟨by rfl, rfl⟩) ?_ ?_
      rotate_left
      ·
       simp only [Act.put, List.setIfInBounds_toArray, List.set_cons_zero, List.set_cons_succ, i64_w, i32_w]
       rfl
      refine pure_ (i := 9) (N := some 30) (v := undef) (a' := ?_) #[true, true, true, true, true, true, true, true, true, true, false, false, false, false, false, false, false, false, false, false, false, false, false, false, false, false, false, false] rfl rfl (any_of HT_.out (by kernel_rfl)) (fun _ _ _ h => h) (Or.inr ⟨by rfl, rfl⟩) ?_ ?_
      rotate_left
      ·
       simp only [Act.put, List.setIfInBounds_toArray, List.set_cons_zero, List.set_cons_succ, i64_w, i32_w]
       rfl
      refine pure_ (i := 10) (N := some 31) (v := undef) (a' := ?_) #[true, true, true, true, true, true, true, true, true, true, true, false, false, false, false, false, false, false, false, false, false, false, false, false, false, false, false, false] rfl rfl (any_of HT_.out (by kernel_rfl)) (fun _ _ _ h => h) (Or.inr ⟨by rfl, rfl⟩) ?_ ?_
      rotate_left
      ·
       simp only [Act.put, List.setIfInBounds_toArray, List.set_cons_zero, List.set_cons_succ, i64_w, i32_w]
       rfl
      refine pure_ (i := 11) (N := some 32) (v := undef) (a' := ?_) #[true, true, true, true, true, true, true, true, true, true, true, true, false, false, false, false, false, false, false, false, false, false, false, false, false, false, false, false] rfl rfl (any_of HT_.out (by kernel_rfl)) (fun _ _ _ h => h) (Or.inr ⟨by rfl, rfl⟩) ?_ ?_
      rotate_left
      ·
       simp only [Act.put, List.setIfInBounds_toArray, List.set_cons_zero, List.set_cons_succ, i64_w, i32_w]
       rfl
      refine pure_ (i := 12) (N := some 33) (v := undef) (a' := ?_) #[true, true, true, true, true, true, true, true, true, true, true, true, true, false, false, false, false, false, false, false, false, false, false, false, false, false, false, false] rfl rfl (any_of HT_.out (by kernel_rfl)) (fun _ _ _ h => h) (Or.inr ⟨by rfl, rfl⟩) ?_ ?_
      rotate_left
      ·
       simp only [Act.put, List.setIfInBounds_toArray, List.set_cons_zero, List.set_cons_succ, i64_w, i32_w]
       rfl
      refine pure_ (i := 13) (N := some 34) (v := undef) (a' := ?_) #[true, true, true, true, true, true, true, true, true, true, true, true, true, true, false, false, false, false, false, false, false, false, false, false, false, false, false, false] rfl rfl (any_of HT_.out (by kernel_rfl)) (fun _ _ _ h => h) (Or.inr ⟨by rfl, rfl⟩) ?_ ?_
      rotate_left
      ·
       simp only [Act.put, List.setIfInBounds_toArray, List.set_cons_zero, List.set_cons_succ, i64_w, i32_w]
       rfl
      refine pure_ (i := 14) (N := some 35) (v := ?_) (a' := ?_) #[true, true, true, true, true, true, true, true, true, true, true, true, true, true, true, false, false, false, false, false, false, false, false, false, false, false, false, false] rfl rfl (any_of HT_.out (by kernel_rfl)) (fun _ _ _ h => h) (Or.inl ⟨by rfl, ?_⟩) ?_ ?_
      rotate_left
      ·
       intro w'
       go_simp
       with_reducible rfl
      rotate_left
      ·
       simp only [Act.put, List.setIfInBounds_toArray, List.set_cons_zero, List.set_cons_succ, i64_w, i32_w]
       rfl
      refine pure_ (i := 15) (N := some 36) (v := ?_) (a' := ?_) #[true, true, true, true, true, true, true, true, true, true, true, true, true, true, true, true, false, false, false, false, false, false, false, false, false, false, false, false] rfl rfl (any_of HT_.out (by kernel_rfl)) (fun _ _ _ h => h) (Or.inl ⟨by rfl, ?_⟩) ?_ ?_
      rotate_left
      ·
       intro w'
       go_simp
       with_reducible rfl
      rotate_left
      ·
       simp only [Act.put, List.setIfInBounds_toArray, List.set_cons_zero, List.set_cons_succ, i64_w, i32_w]
       rfl
      refine pure_ (i := 17) (N := some 38) (v := ?_) (a' := ?_) #[true, true, true, true, true, true, true, true, true, true, true, true, true, true, true, true, false, true, false, false, false, false, false, false, false, false, false, false] rfl rfl (any_of HT_.out (by kernel_rfl)) (fun _ _ _ h => h) (Or.inl ⟨by rfl, ?_⟩) ?_ ?_
      rotate_left
      ·
       intro w'
       go_simp
       with_reducible rfl
      rotate_left
      ·
       simp only [Act.put, List.setIfInBounds_toArray, List.set_cons_zero, List.set_cons_succ, i64_w, i32_w]
       rfl
      refine take_ (i := 16) (N := some 37) (v := ?_) (a' := ?_) #[true, true, true, true, true, true, true, true, true, true, true, true, true, true, true, true, true, true, false, false, false, false, false, false, false, false, false, false] rfl rfl (take_ofW HT_.out HW_.out (by kernel_rfl)) (fun _ _ _ h => h) (Or.inl ⟨by rfl, ?_⟩) hHeld ?_ ?_
      rotate_left
      ·
       rintro w' ⟨s0, s1, s2, s3, s4⟩
       go_simp
       with_reducible rfl
      rotate_left
      ·
       simp only [Act.put, List.setIfInBounds_toArray, List.set_cons_zero, List.set_cons_succ, i64_w, i32_w]
       rfl
      refine one_ (i := 18) (N := some 39) #[true, true, true, true, true, true, true, true, true, true, true, true, true, true, true, true, true, true, true, false, false, false, false, false, false, false, false, false] rfl rfl (one_of HT_.out (by kernel_rfl)) (by decide) (fun K hK => ?_)
      refine goes_ Tryd.func16 (by kernel_rfl) rfl #[.int .i64 (Int.tmod (Go.bits .and .i64 a1 255) 12)] (by rfl) rfl rfl (by (try simp only [List.map_toArray, List.map_cons, List.map_nil]); first | done | rfl | (simp only [List.length_drop, List.length_take]; rfl)) ?_
      with_reducible refine (axis_Operator_Back.calls (Int.tmod (Go.bits .and .i64 a1 255) 12) t845 _ A44.out).mono ?_
      rintro e w' ⟨rfl, ⟨nd, rfl⟩⟩
      refine ⟨_, rfl, ?_⟩
      refine hK.out _ _ ⟨(blk_cell BK837.out 0).trans rfl, (blk_cell BK837.out 1).trans rfl, (blk_cell BK837.out 2).trans rfl, (blk_cell BK837.out 3).trans rfl, (blk_cell BK837.out 4).trans rfl⟩ (fun hHeld => ?_)
      clear hK K
      refine norm_ (a' := ?_) ?_ ?_
      rotate_left
      ·
       show Act.put _ (some 39) _ = _
       simp only [Act.put, List.setIfInBounds_toArray, List.set_cons_zero, List.set_cons_succ, i64_w, i32_w]
       rfl
      refine one_ (i := 19) (N := some 40) #[true, true, true, true, true, true, true, true, true, true, true, true, true, true, true, true, true, true, true, true, false, false, false, false, false, false, false, false] rfl rfl (one_of HT_.out (by kernel_rfl)) (by decide) (fun K hK => ?_)
      refine goes_ Tryd.func18 (by kernel_rfl) rfl #[.agg #[.int .i64 t832, .int .u64 t833, .int .u64 t834, .int .u64 t835, .int .u64 t836], .int .i64 t845] (by rfl) rfl rfl (by (try simp only [List.map_toArray, List.map_cons, List.map_nil]); first | done | rfl | (simp only [List.length_drop, List.length_take]; rfl)) ?_
      with_reducible refine (iso_Keeps.calls k t832 t833 t834 t835 t836 t845 true _ ?side1 A45.out).mono ?_
      (case side1 => exact HGSix.out.below (by repeat (first | (with_reducible first | exact HB.out | apply ba_ | apply bn_ | apply bd_ | refine below_set ?_ GE830.out | refine below_set ?_ GE837.out) | exact HB.out)))
      rintro e w52 ⟨rfl, hb⟩
      refine ⟨_, rfl, ?_⟩
      have n0_ := Aside0.mk (blk_below (g := gb830) (o := .cells #[.int .i64 a0_0, .int .u64 a0_1, .int .u64 a0_2, .int .u64 a0_3, .int .u64 a0_4] 25 (0, 0)) (by (with_reducible repeat (first | apply bN_ | apply bD_ | apply bA_)); exact BK830.out) hb)
      have n1_ := Aside0.mk (blk_below (g := gb837) (o := .cells #[.int .i64 t832, .int .u64 t833, .int .u64 t834, .int .u64 t835, .int .u64 t836] 29 (0, 0)) (by (with_reducible repeat (first | apply bN_ | apply bD_ | apply bA_)); exact BK837.out) hb)
      have n2_ := Aside0.mk (below_step (by repeat (first | (with_reducible first | exact HB.out | apply ba_ | apply bn_ | apply bd_ | refine below_set ?_ GE830.out | refine below_set ?_ GE837.out) | exact HB.out)) hb)
      clear BK830
      clear BK837
      clear HB
      have BK830 := n0_
      have BK837 := n1_
      have HB := n2_
      clear n0_ n1_ n2_
      (try clear hb)
      (try clear hb2)
      (try clear hk)
      (try clear hi)
      refine hK.out _ _ ⟨(blk_cell BK837.out 0).trans rfl, (blk_cell BK837.out 1).trans rfl, (blk_cell BK837.out 2).trans rfl, (blk_cell BK837.out 3).trans rfl, (blk_cell BK837.out 4).trans rfl⟩ (fun hHeld => ?_)
      clear hK K
      refine norm_ (a' := ?_) ?_ ?_
      rotate_left
      ·
       show Act.put _ (some 40) _ = _
       simp only [Act.put, List.setIfInBounds_toArray, List.set_cons_zero, List.set_cons_succ, i64_w, i32_w]
       rfl
      refine pure_ (i := 20) (N := some 41) (v := ?_) (a' := ?_) #[true, true, true, true, true, true, true, true, true, true, true, true, true, true, true, true, true, true, true, true, true, false, false, false, false, false, false, false] rfl rfl (any_of HT_.out (by kernel_rfl)) (fun _ _ _ h => h) (Or.inl ⟨by rfl, ?_⟩) ?_ ?_
      rotate_left
      ·
       intro w'
       go_simp
       with_reducible rfl
      rotate_left
      ·
       simp only [Act.put, List.setIfInBounds_toArray, List.set_cons_zero, List.set_cons_succ, i64_w, i32_w]
       rfl
      refine pure_ (i := 21) (N := some 42) (v := ?_) (a' := ?_) #[true, true, true, true, true, true, true, true, true, true, true, true, true, true, true, true, true, true, true, true, true, true, false, false, false, false, false, false] rfl rfl (any_of HT_.out (by kernel_rfl)) (fun _ _ _ h => h) (Or.inl ⟨by rfl, ?_⟩) ?_ ?_
      rotate_left
      ·
       intro w'
       go_simp
       with_reducible rfl
      rotate_left
      ·
       simp only [Act.put, List.setIfInBounds_toArray, List.set_cons_zero, List.set_cons_succ, i64_w, i32_w]
       rfl
      refine pure_ (i := 22) (N := some 43) (v := ?_) (a' := ?_) #[true, true, true, true, true, true, true, true, true, true, true, true, true, true, true, true, true, true, true, true, true, true, true, false, false, false, false, false] rfl rfl (any_of HT_.out (by kernel_rfl)) (fun _ _ _ h => h) (Or.inl ⟨by rfl, ?_⟩) ?_ ?_
      rotate_left
      ·
       intro w'
       go_simp
       with_reducible rfl
      rotate_left
      ·
       simp only [Act.put, List.setIfInBounds_toArray, List.set_cons_zero, List.set_cons_succ, i64_w, i32_w]
       rfl
      refine pure_ (i := 23) (N := some 44) (v := ?_) (a' := ?_) #[true, true, true, true, true, true, true, true, true, true, true, true, true, true, true, true, true, true, true, true, true, true, true, true, false, false, false, false] rfl rfl (any_of HT_.out (by kernel_rfl)) (fun _ _ _ h => h) (Or.inl ⟨by rfl, ?_⟩) ?_ ?_
      rotate_left
      ·
       intro w'
       go_simp
       with_reducible rfl
      rotate_left
      ·
       simp only [Act.put, List.setIfInBounds_toArray, List.set_cons_zero, List.set_cons_succ, i64_w, i32_w]
       rfl
      refine take_ (i := 24) (N := some 45) (v := ?_) (a' := ?_) #[true, true, true, true, true, true, true, true, true, true, true, true, true, true, true, true, true, true, true, true, true, true, true, true, true, false, false, false] rfl rfl (take_ofW HT_.out HW_.out (by kernel_rfl)) (fun _ _ _ h => h) (Or.inl ⟨by rfl, ?_⟩) hHeld ?_ ?_
      rotate_left
      ·
       rintro w' ⟨s0, s1, s2, s3, s4⟩
       go_simp
       with_reducible rfl
      rotate_left
      ·
       simp only [Act.put, List.setIfInBounds_toArray, List.set_cons_zero, List.set_cons_succ, i64_w, i32_w]
       rfl
      refine one_ (i := 25) (N := some 46) #[true, true, true, true, true, true, true, true, true, true, true, true, true, true, true, true, true, true, true, true, true, true, true, true, true, true, false, false] rfl rfl (one_of HT_.out (by kernel_rfl)) (by decide) (fun K hK => ?_)
      refine goes_ Tryd.func18 (by kernel_rfl) rfl #[.agg #[.int .i64 t832, .int .u64 t833, .int .u64 t834, .int .u64 t835, .int .u64 t836], .int .i64 0] (by rfl) rfl rfl (by (try simp only [List.map_toArray, List.map_cons, List.map_nil]); first | done | rfl | (simp only [List.length_drop, List.length_take]; rfl)) ?_
      with_reducible refine (iso_Keeps.calls k t832 t833 t834 t835 t836 0 t847 _ ?side1 A47.out).mono ?_
      (case side1 => exact HGSix.out.below (by repeat (first | (with_reducible first | exact HB.out | apply ba_ | apply bn_ | apply bd_ | refine below_set ?_ GE830.out | refine below_set ?_ GE837.out) | exact HB.out)))
      rintro e w53 ⟨rfl, hb⟩
      refine ⟨_, rfl, ?_⟩
      have n0_ := Aside0.mk (blk_below (g := gb830) (o := .cells #[.int .i64 a0_0, .int .u64 a0_1, .int .u64 a0_2, .int .u64 a0_3, .int .u64 a0_4] 25 (0, 0)) (by (with_reducible repeat (first | apply bN_ | apply bD_ | apply bA_)); exact BK830.out) hb)
      have n1_ := Aside0.mk (blk_below (g := gb837) (o := .cells #[.int .i64 t832, .int .u64 t833, .int .u64 t834, .int .u64 t835, .int .u64 t836] 29 (0, 0)) (by (with_reducible repeat (first | apply bN_ | apply bD_ | apply bA_)); exact BK837.out) hb)
      have n2_ := Aside0.mk (below_step (by repeat (first | (with_reducible first | exact HB.out | apply ba_ | apply bn_ | apply bd_ | refine below_set ?_ GE830.out | refine below_set ?_ GE837.out) | exact HB.out)) hb)
      clear BK830
      clear BK837
      clear HB
      have BK830 := n0_
      have BK837 := n1_
      have HB := n2_
      clear n0_ n1_ n2_
      (try clear hb)
      (try clear hb2)
      (try clear hk)
      (try clear hi)
      refine hK.out _ _ ⟨(blk_cell BK837.out 0).trans rfl, (blk_cell BK837.out 1).trans rfl, (blk_cell BK837.out 2).trans rfl, (blk_cell BK837.out 3).trans rfl, (blk_cell BK837.out 4).trans rfl⟩ (fun hHeld => ?_)
      clear hK K
      refine norm_ (a' := ?_) ?_ ?_
      rotate_left
      ·
       show Act.put _ (some 46) _ = _
       simp only [Act.put, List.setIfInBounds_toArray, List.set_cons_zero, List.set_cons_succ, i64_w, i32_w]
       rfl
      refine pure_ (i := 26) (N := some 47) (v := ?_) (a' := ?_) #[true, true, true, true, true, true, true, true, true, true, true, true, true, true, true, true, true, true, true, true, true, true, true, true, true, true, true, false] rfl rfl (any_of HT_.out (by kernel_rfl)) (fun _ _ _ h => h) (Or.inl ⟨by rfl, ?_⟩) ?_ ?_
      rotate_left
      ·
       intro w'
       go_simp
       with_reducible rfl
      rotate_left
      ·
       simp only [Act.put, List.setIfInBounds_toArray, List.set_cons_zero, List.set_cons_succ, i64_w, i32_w]
       rfl
      refine pure_ (i := 27) (N := some 48) (v := ?_) (a' := ?_) #[true, true, true, true, true, true, true, true, true, true, true, true, true, true, true, true, true, true, true, true, true, true, true, true, true, true, true, true] rfl rfl (any_of HT_.out (by kernel_rfl)) (fun _ _ _ h => h) (Or.inl ⟨by rfl, ?_⟩) ?_ ?_
      rotate_left
      ·
       intro w'
       go_simp
       with_reducible rfl
      rotate_left
      ·
       simp only [Act.put, List.setIfInBounds_toArray, List.set_cons_zero, List.set_cons_succ, i64_w, i32_w]
       rfl
      refine done_ (done_of HT_.out (by kernel_rfl)) ?_
      try go_wp2
      go_meet
      case rel => exact ⟨_, (!t847), (by first | rfl | (simp; done) | (simp [*]; done)), H', ⟨by first | omega | exact Nat.le_refl _⟩, ⟨by (with_reducible repeat (first | apply bN_ | apply bD_ | apply bA_)); exact BK830.out⟩, ⟨by (with_reducible repeat (first | apply bN_ | apply bD_ | apply bA_)); exact BK837.out⟩, ⟨by repeat (first | (with_reducible first | exact HB.out | apply ba_ | apply bn_ | apply bd_ | refine below_set ?_ GE830.out | refine below_set ?_ GE837.out) | exact HB.out)⟩⟩
     ·
      replace c46 := Bool.eq_false_iff.mpr c46
      subst c46
      have H1 : (honeycomblaw07_IsoGroup.j0 k (Int.tmod (Go.bits .and .i64 a1 255) 12) true t832 t833 t834 t835 t836) = some r := by rw [if_neg (show ¬ (false = true) by decide)] at H; exact H
      clear H
      have H := H1
      clear H1
      have H' := Aside0.mk H
      clear H
      try go_wp2
      have n0_ : Aside0 ((((((w12.setCell ⟨gb837, 0, none⟩ (.int .i64 t832)).setCell ⟨gb837, 1, none⟩ (.int .u64 t833)).setCell ⟨gb837, 2, none⟩ (.int .u64 t834)).setCell ⟨gb837, 3, none⟩ (.int .u64 t835)).setCell ⟨gb837, 4, none⟩ (.int .u64 t836)).heap[gb830]? = some (.cells #[.int .i64 a0_0, .int .u64 a0_1, .int .u64 a0_2, .int .u64 a0_3, .int .u64 a0_4] 25 (0, 0))) := ⟨by (with_reducible repeat (first | apply bN_ | apply bD_ | apply bA_)); refine blk_far ?_ NB830_837.out _; (with_reducible repeat (first | apply bN_ | apply bD_ | apply bA_)); refine blk_far ?_ NB830_837.out _; (with_reducible repeat (first | apply bN_ | apply bD_ | apply bA_)); refine blk_far ?_ NB830_837.out _; (with_reducible repeat (first | apply bN_ | apply bD_ | apply bA_)); refine blk_far ?_ NB830_837.out _; (with_reducible repeat (first | apply bN_ | apply bD_ | apply bA_)); refine blk_far ?_ NB830_837.out _; (with_reducible repeat (first | apply bN_ | apply bD_ | apply bA_)); exact BK830.out⟩
      have n1_ : Aside0 ((((((w12.setCell ⟨gb837, 0, none⟩ (.int .i64 t832)).setCell ⟨gb837, 1, none⟩ (.int .u64 t833)).setCell ⟨gb837, 2, none⟩ (.int .u64 t834)).setCell ⟨gb837, 3, none⟩ (.int .u64 t835)).setCell ⟨gb837, 4, none⟩ (.int .u64 t836)).heap[gb837]? = some (.cells #[.int .i64 t832, .int .u64 t833, .int .u64 t834, .int .u64 t835, .int .u64 t836] 29 (0, 0))) := ⟨by (with_reducible repeat (first | apply bN_ | apply bD_ | apply bA_)); refine blk_put (cs := #[.int .i64 t832, .int .u64 t833, .int .u64 t834, .int .u64 t835, .int .u64 0]) ?_ 4 _ rfl; (with_reducible repeat (first | apply bN_ | apply bD_ | apply bA_)); refine blk_put (cs := #[.int .i64 t832, .int .u64 t833, .int .u64 t834, .int .u64 0, .int .u64 0]) ?_ 3 _ rfl; (with_reducible repeat (first | apply bN_ | apply bD_ | apply bA_)); refine blk_put (cs := #[.int .i64 t832, .int .u64 t833, .int .u64 0, .int .u64 0, .int .u64 0]) ?_ 2 _ rfl; (with_reducible repeat (first | apply bN_ | apply bD_ | apply bA_)); refine blk_put (cs := #[.int .i64 t832, .int .u64 0, .int .u64 0, .int .u64 0, .int .u64 0]) ?_ 1 _ rfl; (with_reducible repeat (first | apply bN_ | apply bD_ | apply bA_)); refine blk_put (cs := #[.int .i64 0, .int .u64 0, .int .u64 0, .int .u64 0, .int .u64 0]) ?_ 0 _ rfl; (with_reducible repeat (first | apply bN_ | apply bD_ | apply bA_)); exact BK837.out⟩
      have n2_ : Aside0 (Below w.heap.size w (((((w12.setCell ⟨gb837, 0, none⟩ (.int .i64 t832)).setCell ⟨gb837, 1, none⟩ (.int .u64 t833)).setCell ⟨gb837, 2, none⟩ (.int .u64 t834)).setCell ⟨gb837, 3, none⟩ (.int .u64 t835)).setCell ⟨gb837, 4, none⟩ (.int .u64 t836))) := ⟨by repeat (first | (with_reducible first | exact HB.out | apply ba_ | apply bn_ | apply bd_ | refine below_set ?_ GE830.out | refine below_set ?_ GE837.out) | exact HB.out)⟩
      (try clear BK830)
      (try clear BK837)
      (try clear HB)
      generalize (((((w12.setCell ⟨gb837, 0, none⟩ (.int .i64 t832)).setCell ⟨gb837, 1, none⟩ (.int .u64 t833)).setCell ⟨gb837, 2, none⟩ (.int .u64 t834)).setCell ⟨gb837, 3, none⟩ (.int .u64 t835)).setCell ⟨gb837, 4, none⟩ (.int .u64 t836)) = w54 at n0_ n1_ n2_ ⊢
      have BK830 := n0_
      have BK837 := n1_
      have HB := n2_
      clear n0_ n1_ n2_
      have n0_ := Aside0.mk (blk_drew BK830.out)
      have n1_ := Aside0.mk (blk_drew BK837.out)
      have n2_ := Aside0.mk (below_drew1 HB.out)
      clear BK830
      clear BK837
      clear HB
      have BK830 := n0_
      have BK837 := n1_
      have HB := n2_
      clear n0_ n1_ n2_
      refine start_ (n := 28) (S := fun w' => w'.cell? ⟨gb837, 0, none⟩ = some (.int .i64 t832) ∧ w'.cell? ⟨gb837, 1, none⟩ = some (.int .u64 t833) ∧ w'.cell? ⟨gb837, 2, none⟩ = some (.int .u64 t834) ∧ w'.cell? ⟨gb837, 3, none⟩ = some (.int .u64 t835) ∧ w'.cell? ⟨gb837, 4, none⟩ = some (.int .u64 t836)) (ds := []) #[false, false, false, false, false, false, false, false, false, false, false, false, false, false, false, false, false, false, false, false, false, false, false, false, false, false, false, false] (by kernel_rfl) rfl rfl ⟨(blk_cell BK837.out 0).trans rfl, (blk_cell BK837.out 1).trans rfl, (blk_cell BK837.out 2).trans rfl, (blk_cell BK837.out 3).trans rfl, (blk_cell BK837.out 4).trans rfl⟩ (fun hHeld => ?_); refine with_tabW honeycomblaw07_IsoGroup.tab5 honeycomblaw07_IsoGroup.bits5 (fun HT_ HW_ => ?_)
      generalize w54.drew = w55 at BK830 BK837 HB hHeld ⊢
      refine pure_ (i := 1) (N := some 22) (v := ?_) (a' := ?_) #[false, true, false, false, false, false, false, false, false, false, false, false, false, false, false, false, false, false, false, false, false, false, false, false, false, false, false, false] rfl rfl (any_of HT_.out (by kernel_rfl)) (fun _ _ _ h => h) (Or.inl ⟨by rfl, ?_⟩) ?_ ?_
      rotate_left
      ·
       intro w'
       go_simp
       with_reducible rfl
      rotate_left
      ·
       simp only [Act.put, List.setIfInBounds_toArray, List.set_cons_zero, List.set_cons_succ, i64_w, i32_w]
       rfl
      refine take_ (i := 0) (N := some 21) (v := ?_) (a' := ?_) #[true, true, false, false, false, false, false, false, false, false, false, false, false, false, false, false, false, false, false, false, false, false, false, false, false, false, false, false] rfl rfl (take_ofW HT_.out HW_.out (by kernel_rfl)) (fun _ _ _ h => h) (Or.inl ⟨by rfl, ?_⟩) hHeld ?_ ?_
      rotate_left
      ·
       rintro w' ⟨s0, s1, s2, s3, s4⟩
       go_simp
       with_reducible rfl
      rotate_left
      ·
       simp only [Act.put, List.setIfInBounds_toArray, List.set_cons_zero, List.set_cons_succ, i64_w, i32_w]
       rfl
      refine one_ (i := 2) (N := some 23) #[true, true, true, false, false, false, false, false, false, false, false, false, false, false, false, false, false, false, false, false, false, false, false, false, false, false, false, false] rfl rfl (one_of HT_.out (by kernel_rfl)) (by decide) (fun K hK => ?_)
      refine goes_ Tryd.func18 (by kernel_rfl) rfl #[.agg #[.int .i64 t832, .int .u64 t833, .int .u64 t834, .int .u64 t835, .int .u64 t836], .int .i64 (Int.tmod (Go.bits .and .i64 a1 255) 12)] (by rfl) rfl rfl (by (try simp only [List.map_toArray, List.map_cons, List.map_nil]); first | done | rfl | (simp only [List.length_drop, List.length_take]; rfl)) ?_
      with_reducible refine (iso_Keeps.calls k t832 t833 t834 t835 t836 (Int.tmod (Go.bits .and .i64 a1 255) 12) true _ ?side1 A15.out).mono ?_
      (case side1 => exact HGSix.out.below (by repeat (first | (with_reducible first | exact HB.out | apply ba_ | apply bn_ | apply bd_ | refine below_set ?_ GE830.out | refine below_set ?_ GE837.out) | exact HB.out)))
      rintro e w56 ⟨rfl, hb⟩
      refine ⟨_, rfl, ?_⟩
      have n0_ := Aside0.mk (blk_below (g := gb830) (o := .cells #[.int .i64 a0_0, .int .u64 a0_1, .int .u64 a0_2, .int .u64 a0_3, .int .u64 a0_4] 25 (0, 0)) (by (with_reducible repeat (first | apply bN_ | apply bD_ | apply bA_)); exact BK830.out) hb)
      have n1_ := Aside0.mk (blk_below (g := gb837) (o := .cells #[.int .i64 t832, .int .u64 t833, .int .u64 t834, .int .u64 t835, .int .u64 t836] 29 (0, 0)) (by (with_reducible repeat (first | apply bN_ | apply bD_ | apply bA_)); exact BK837.out) hb)
      have n2_ := Aside0.mk (below_step (by repeat (first | (with_reducible first | exact HB.out | apply ba_ | apply bn_ | apply bd_ | refine below_set ?_ GE830.out | refine below_set ?_ GE837.out) | exact HB.out)) hb)
      clear BK830
      clear BK837
      clear HB
      have BK830 := n0_
      have BK837 := n1_
      have HB := n2_
      clear n0_ n1_ n2_
      (try clear hb)
      (try clear hb2)
      (try clear hk)
      (try clear hi)
      refine hK.out _ _ ⟨(blk_cell BK837.out 0).trans rfl, (blk_cell BK837.out 1).trans rfl, (blk_cell BK837.out 2).trans rfl, (blk_cell BK837.out 3).trans rfl, (blk_cell BK837.out 4).trans rfl⟩ (fun hHeld => ?_)
      clear hK K
      refine norm_ (a' := ?_) ?_ ?_
      rotate_left
      ·
       show Act.put _ (some 23) _ = _
       simp only [Act.put, List.setIfInBounds_toArray, List.set_cons_zero, List.set_cons_succ, i64_w, i32_w]
       rfl
      refine pure_ (i := 3) (N := some 24) (v := ?_) (a' := ?_) #[true, true, true, true, false, false, false, false, false, false, false, false, false, false, false, false, false, false, false, false, false, false, false, false, false, false, false, false] rfl rfl (any_of HT_.out (by kernel_rfl)) (fun _ _ _ h => h) (Or.inl ⟨by rfl, ?_⟩) ?_ ?_
      rotate_left
      ·
       intro w'
       go_simp
       with_reducible rfl
      rotate_left
      ·
       simp only [Act.put, List.setIfInBounds_toArray, List.set_cons_zero, List.set_cons_succ, i64_w, i32_w]
       rfl
      refine pure_ (i := 5) (N := some 26) (v := ?_) (a' := ?_) #[true, true, true, true, false, true, false, false, false, false, false, false, false, false, false, false, false, false, false, false, false, false, false, false, false, false, false, false] rfl rfl (any_of HT_.out (by kernel_rfl)) (fun _ _ _ h => h) (Or.inl ⟨by rfl, ?_⟩) ?_ ?_
      rotate_left
      ·
       intro w'
       go_simp
       with_reducible rfl
      rotate_left
      ·
       simp only [Act.put, List.setIfInBounds_toArray, List.set_cons_zero, List.set_cons_succ, i64_w, i32_w]
       rfl
      refine take_ (i := 4) (N := some 25) (v := ?_) (a' := ?_) #[true, true, true, true, true, true, false, false, false, false, false, false, false, false, false, false, false, false, false, false, false, false, false, false, false, false, false, false] rfl rfl (take_ofW HT_.out HW_.out (by kernel_rfl)) (fun _ _ _ h => h) (Or.inl ⟨by rfl, ?_⟩) hHeld ?_ ?_
      rotate_left
      ·
       rintro w' ⟨s0, s1, s2, s3, s4⟩
       go_simp
       with_reducible rfl
      rotate_left
      ·
       simp only [Act.put, List.setIfInBounds_toArray, List.set_cons_zero, List.set_cons_succ, i64_w, i32_w]
       rfl
      refine one_ (i := 6) (N := some 27) #[true, true, true, true, true, true, true, false, false, false, false, false, false, false, false, false, false, false, false, false, false, false, false, false, false, false, false, false] rfl rfl (one_of HT_.out (by kernel_rfl)) (by decide) (fun K hK => ?_)
      refine goes_ Tryd.func18 (by kernel_rfl) rfl #[.agg #[.int .i64 t832, .int .u64 t833, .int .u64 t834, .int .u64 t835, .int .u64 t836], .int .i64 (Int.tmod (Go.bits .and .i64 a2 255) 12)] (by rfl) rfl rfl (by (try simp only [List.map_toArray, List.map_cons, List.map_nil]); first | done | rfl | (simp only [List.length_drop, List.length_take]; rfl)) ?_
      with_reducible refine (iso_Keeps.calls k t832 t833 t834 t835 t836 (Int.tmod (Go.bits .and .i64 a2 255) 12) false _ ?side1 A17.out).mono ?_
      (case side1 => exact HGSix.out.below (by repeat (first | (with_reducible first | exact HB.out | apply ba_ | apply bn_ | apply bd_ | refine below_set ?_ GE830.out | refine below_set ?_ GE837.out) | exact HB.out)))
      rintro e w57 ⟨rfl, hb⟩
      refine ⟨_, rfl, ?_⟩
      have n0_ := Aside0.mk (blk_below (g := gb830) (o := .cells #[.int .i64 a0_0, .int .u64 a0_1, .int .u64 a0_2, .int .u64 a0_3, .int .u64 a0_4] 25 (0, 0)) (by (with_reducible repeat (first | apply bN_ | apply bD_ | apply bA_)); exact BK830.out) hb)
      have n1_ := Aside0.mk (blk_below (g := gb837) (o := .cells #[.int .i64 t832, .int .u64 t833, .int .u64 t834, .int .u64 t835, .int .u64 t836] 29 (0, 0)) (by (with_reducible repeat (first | apply bN_ | apply bD_ | apply bA_)); exact BK837.out) hb)
      have n2_ := Aside0.mk (below_step (by repeat (first | (with_reducible first | exact HB.out | apply ba_ | apply bn_ | apply bd_ | refine below_set ?_ GE830.out | refine below_set ?_ GE837.out) | exact HB.out)) hb)
      clear BK830
      clear BK837
      clear HB
      have BK830 := n0_
      have BK837 := n1_
      have HB := n2_
      clear n0_ n1_ n2_
      (try clear hb)
      (try clear hb2)
      (try clear hk)
      (try clear hi)
      refine hK.out _ _ ⟨(blk_cell BK837.out 0).trans rfl, (blk_cell BK837.out 1).trans rfl, (blk_cell BK837.out 2).trans rfl, (blk_cell BK837.out 3).trans rfl, (blk_cell BK837.out 4).trans rfl⟩ (fun hHeld => ?_)
      clear hK K
      refine norm_ (a' := ?_) ?_ ?_
      rotate_left
      ·
       show Act.put _ (some 27) _ = _
       simp only [Act.put, List.setIfInBounds_toArray, List.set_cons_zero, List.set_cons_succ, i64_w, i32_w]
       rfl
      refine pure_ (i := 7) (N := some 28) (v := ?_) (a' := ?_) #[true, true, true, true, true, true, true, true, false, false, false, false, false, false, false, false, false, false, false, false, false, false, false, false, false, false, false, false] rfl rfl (any_of HT_.out (by kernel_rfl)) (fun _ _ _ h => h) (Or.inl ⟨by rfl, ?_⟩) ?_ ?_
      rotate_left
      ·
       intro w'
       go_simp
       with_reducible rfl
      rotate_left
      ·
       simp only [Act.put, List.setIfInBounds_toArray, List.set_cons_zero, List.set_cons_succ, i64_w, i32_w]
       rfl
      refine pure_ (i := 8) (N := some 29) (v := undef) (a' := ?_) #[true, true, true, true, true, true, true, true, true, false, false, false, false, false, false, false, false, false, false, false, false, false, false, false, false, false, false, false] rfl rfl (any_of HT_.out (by kernel_rfl)) (fun _ _ _ h => h) (Or.inr ⟨by rfl, rfl⟩) ?_ ?_
      rotate_left
      ·
       simp only [Act.put, List.setIfInBounds_toArray, List.set_cons_zero, List.set_cons_succ, i64_w, i32_w]
       rfl
      refine pure_ (i := 9) (N := some 30) (v := undef) (a' := ?_) #[true, true, true, true, true, true, true, true, true, true, false, false, false, false, false, false, false, false, false, false, false, false, false, false, false, false, false, false] rfl rfl (any_of HT_.out (by kernel_rfl)) (fun _ _ _ h => h) (Or.inr ⟨by rfl, rfl⟩) ?_ ?_
      rotate_left
      ·
       simp only [Act.put, List.setIfInBounds_toArray, List.set_cons_zero, List.set_cons_succ, i64_w, i32_w]
       rfl
      refine pure_ (i := 10) (N := some 31) (v := undef) (a' := ?_) #[true, true, true, true, true, true, true, true, true, true, true, false, false, false, false, false, false, false, false, false, false, false, false, false, false, false, false, false] rfl rfl (any_of HT_.out (by kernel_rfl)) (fun _ _ _ h => h) (Or.inr ⟨by rfl, rfl⟩) ?_ ?_
      rotate_left
      ·
       simp only [Act.put, List.setIfInBounds_toArray, List.set_cons_zero, List.set_cons_succ, i64_w, i32_w]
       rfl
      refine pure_ (i := 11) (N := some 32) (v := undef) (a' := ?_) #[true, true, true, true, true, true, true, true, true, true, true, true, false, false, false, false, false, false, false, false, false, false, false, false, false, false, false, false] rfl rfl (any_of HT_.out (by kernel_rfl)) (fun _ _ _ h => h) (Or.inr ⟨by rfl, rfl⟩) ?_ ?_
      rotate_left
      ·
       simp only [Act.put, List.setIfInBounds_toArray, List.set_cons_zero, List.set_cons_succ, i64_w, i32_w]
       rfl
      refine pure_ (i := 12) (N := some 33) (v := undef) (a' := ?_) #[true, true, true, true, true, true, true, true, true, true, true, true, true, false, false, false, false, false, false, false, false, false, false, false, false, false, false, false] rfl rfl (any_of HT_.out (by kernel_rfl)) (fun _ _ _ h => h) (Or.inr ⟨by rfl, rfl⟩) ?_ ?_
      rotate_left
      ·
       simp only [Act.put, List.setIfInBounds_toArray, List.set_cons_zero, List.set_cons_succ, i64_w, i32_w]
       rfl
      refine pure_ (i := 13) (N := some 34) (v := undef) (a' := ?_) #[true, true, true, true, true, true, true, true, true, true, true, true, true, true, false, false, false, false, false, false, false, false, false, false, false, false, false, false] rfl rfl (any_of HT_.out (by kernel_rfl)) (fun _ _ _ h => h) (Or.inr ⟨by rfl, rfl⟩) ?_ ?_
      rotate_left
      ·
       simp only [Act.put, List.setIfInBounds_toArray, List.set_cons_zero, List.set_cons_succ, i64_w, i32_w]
       rfl
      refine pure_ (i := 14) (N := some 35) (v := ?_) (a' := ?_) #[true, true, true, true, true, true, true, true, true, true, true, true, true, true, true, false, false, false, false, false, false, false, false, false, false, false, false, false] rfl rfl (any_of HT_.out (by kernel_rfl)) (fun _ _ _ h => h) (Or.inl ⟨by rfl, ?_⟩) ?_ ?_
      rotate_left
      ·
       intro w'
       go_simp
       with_reducible rfl
      rotate_left
      ·
       simp only [Act.put, List.setIfInBounds_toArray, List.set_cons_zero, List.set_cons_succ, i64_w, i32_w]
       rfl
      refine pure_ (i := 15) (N := some 36) (v := ?_) (a' := ?_) #[true, true, true, true, true, true, true, true, true, true, true, true, true, true, true, true, false, false, false, false, false, false, false, false, false, false, false, false] rfl rfl (any_of HT_.out (by kernel_rfl)) (fun _ _ _ h => h) (Or.inl ⟨by rfl, ?_⟩) ?_ ?_
      rotate_left
      ·
       intro w'
       go_simp
       with_reducible rfl
      rotate_left
      ·
       simp only [Act.put, List.setIfInBounds_toArray, List.set_cons_zero, List.set_cons_succ, i64_w, i32_w]
       rfl
      refine pure_ (i := 17) (N := some 38) (v := ?_) (a' := ?_) #[true, true, true, true, true, true, true, true, true, true, true, true, true, true, true, true, false, true, false, false, false, false, false, false, false, false, false, false] rfl rfl (any_of HT_.out (by kernel_rfl)) (fun _ _ _ h => h) (Or.inl ⟨by rfl, ?_⟩) ?_ ?_
      rotate_left
      ·
       intro w'
       go_simp
       with_reducible rfl
      rotate_left
      ·
       simp only [Act.put, List.setIfInBounds_toArray, List.set_cons_zero, List.set_cons_succ, i64_w, i32_w]
       rfl
      refine take_ (i := 16) (N := some 37) (v := ?_) (a' := ?_) #[true, true, true, true, true, true, true, true, true, true, true, true, true, true, true, true, true, true, false, false, false, false, false, false, false, false, false, false] rfl rfl (take_ofW HT_.out HW_.out (by kernel_rfl)) (fun _ _ _ h => h) (Or.inl ⟨by rfl, ?_⟩) hHeld ?_ ?_
      rotate_left
      ·
       rintro w' ⟨s0, s1, s2, s3, s4⟩
       go_simp
       with_reducible rfl
      rotate_left
      ·
       simp only [Act.put, List.setIfInBounds_toArray, List.set_cons_zero, List.set_cons_succ, i64_w, i32_w]
       rfl
      refine one_ (i := 18) (N := some 39) #[true, true, true, true, true, true, true, true, true, true, true, true, true, true, true, true, true, true, true, false, false, false, false, false, false, false, false, false] rfl rfl (one_of HT_.out (by kernel_rfl)) (by decide) (fun K hK => ?_)
      refine goes_ Tryd.func16 (by kernel_rfl) rfl #[.int .i64 (Int.tmod (Go.bits .and .i64 a1 255) 12)] (by rfl) rfl rfl (by (try simp only [List.map_toArray, List.map_cons, List.map_nil]); first | done | rfl | (simp only [List.length_drop, List.length_take]; rfl)) ?_
      with_reducible refine (axis_Operator_Back.calls (Int.tmod (Go.bits .and .i64 a1 255) 12) t845 _ A44.out).mono ?_
      rintro e w' ⟨rfl, ⟨nd, rfl⟩⟩
      refine ⟨_, rfl, ?_⟩
      refine hK.out _ _ ⟨(blk_cell BK837.out 0).trans rfl, (blk_cell BK837.out 1).trans rfl, (blk_cell BK837.out 2).trans rfl, (blk_cell BK837.out 3).trans rfl, (blk_cell BK837.out 4).trans rfl⟩ (fun hHeld => ?_)
      clear hK K
      refine norm_ (a' := ?_) ?_ ?_
      rotate_left
      ·
       show Act.put _ (some 39) _ = _
       simp only [Act.put, List.setIfInBounds_toArray, List.set_cons_zero, List.set_cons_succ, i64_w, i32_w]
       rfl
      refine one_ (i := 19) (N := some 40) #[true, true, true, true, true, true, true, true, true, true, true, true, true, true, true, true, true, true, true, true, false, false, false, false, false, false, false, false] rfl rfl (one_of HT_.out (by kernel_rfl)) (by decide) (fun K hK => ?_)
      refine goes_ Tryd.func18 (by kernel_rfl) rfl #[.agg #[.int .i64 t832, .int .u64 t833, .int .u64 t834, .int .u64 t835, .int .u64 t836], .int .i64 t845] (by rfl) rfl rfl (by (try simp only [List.map_toArray, List.map_cons, List.map_nil]); first | done | rfl | (simp only [List.length_drop, List.length_take]; rfl)) ?_
      with_reducible refine (iso_Keeps.calls k t832 t833 t834 t835 t836 t845 false _ ?side1 A45.out).mono ?_
      (case side1 => exact HGSix.out.below (by repeat (first | (with_reducible first | exact HB.out | apply ba_ | apply bn_ | apply bd_ | refine below_set ?_ GE830.out | refine below_set ?_ GE837.out) | exact HB.out)))
      rintro e w58 ⟨rfl, hb⟩
      refine ⟨_, rfl, ?_⟩
      have n0_ := Aside0.mk (blk_below (g := gb830) (o := .cells #[.int .i64 a0_0, .int .u64 a0_1, .int .u64 a0_2, .int .u64 a0_3, .int .u64 a0_4] 25 (0, 0)) (by (with_reducible repeat (first | apply bN_ | apply bD_ | apply bA_)); exact BK830.out) hb)
      have n1_ := Aside0.mk (blk_below (g := gb837) (o := .cells #[.int .i64 t832, .int .u64 t833, .int .u64 t834, .int .u64 t835, .int .u64 t836] 29 (0, 0)) (by (with_reducible repeat (first | apply bN_ | apply bD_ | apply bA_)); exact BK837.out) hb)
      have n2_ := Aside0.mk (below_step (by repeat (first | (with_reducible first | exact HB.out | apply ba_ | apply bn_ | apply bd_ | refine below_set ?_ GE830.out | refine below_set ?_ GE837.out) | exact HB.out)) hb)
      clear BK830
      clear BK837
      clear HB
      have BK830 := n0_
      have BK837 := n1_
      have HB := n2_
      clear n0_ n1_ n2_
      (try clear hb)
      (try clear hb2)
      (try clear hk)
      (try clear hi)
      refine hK.out _ _ ⟨(blk_cell BK837.out 0).trans rfl, (blk_cell BK837.out 1).trans rfl, (blk_cell BK837.out 2).trans rfl, (blk_cell BK837.out 3).trans rfl, (blk_cell BK837.out 4).trans rfl⟩ (fun hHeld => ?_)
      clear hK K
      refine norm_ (a' := ?_) ?_ ?_
      rotate_left
      ·
       show Act.put _ (some 40) _ = _
       simp only [Act.put, List.setIfInBounds_toArray, List.set_cons_zero, List.set_cons_succ, i64_w, i32_w]
       rfl
      refine pure_ (i := 20) (N := some 41) (v := ?_) (a' := ?_) #[true, true, true, true, true, true, true, true, true, true, true, true, true, true, true, true, true, true, true, true, true, false, false, false, false, false, false, false] rfl rfl (any_of HT_.out (by kernel_rfl)) (fun _ _ _ h => h) (Or.inl ⟨by rfl, ?_⟩) ?_ ?_
      rotate_left
      ·
       intro w'
       go_simp
       with_reducible rfl
      rotate_left
      ·
       simp only [Act.put, List.setIfInBounds_toArray, List.set_cons_zero, List.set_cons_succ, i64_w, i32_w]
       rfl
      refine pure_ (i := 21) (N := some 42) (v := ?_) (a' := ?_) #[true, true, true, true, true, true, true, true, true, true, true, true, true, true, true, true, true, true, true, true, true, true, false, false, false, false, false, false] rfl rfl (any_of HT_.out (by kernel_rfl)) (fun _ _ _ h => h) (Or.inl ⟨by rfl, ?_⟩) ?_ ?_
      rotate_left
      ·
       intro w'
       go_simp
       with_reducible rfl
      rotate_left
      ·
       simp only [Act.put, List.setIfInBounds_toArray, List.set_cons_zero, List.set_cons_succ, i64_w, i32_w]
       rfl
      refine pure_ (i := 22) (N := some 43) (v := ?_) (a' := ?_) #[true, true, true, true, true, true, true, true, true, true, true, true, true, true, true, true, true, true, true, true, true, true, true, false, false, false, false, false] rfl rfl (any_of HT_.out (by kernel_rfl)) (fun _ _ _ h => h) (Or.inl ⟨by rfl, ?_⟩) ?_ ?_
      rotate_left
      ·
       intro w'
       go_simp
       with_reducible rfl
      rotate_left
      ·
       simp only [Act.put, List.setIfInBounds_toArray, List.set_cons_zero, List.set_cons_succ, i64_w, i32_w]
       rfl
      refine pure_ (i := 23) (N := some 44) (v := ?_) (a' := ?_) #[true, true, true, true, true, true, true, true, true, true, true, true, true, true, true, true, true, true, true, true, true, true, true, true, false, false, false, false] rfl rfl (any_of HT_.out (by kernel_rfl)) (fun _ _ _ h => h) (Or.inl ⟨by rfl, ?_⟩) ?_ ?_
      rotate_left
      ·
       intro w'
       go_simp
       with_reducible rfl
      rotate_left
      ·
       simp only [Act.put, List.setIfInBounds_toArray, List.set_cons_zero, List.set_cons_succ, i64_w, i32_w]
       rfl
      refine pure_ (i := 24) (N := some 45) (v := undef) (a' := ?_) #[true, true, true, true, true, true, true, true, true, true, true, true, true, true, true, true, true, true, true, true, true, true, true, true, true, false, false, false] rfl rfl (any_of HT_.out (by kernel_rfl)) (fun _ _ _ h => h) (Or.inr ⟨by rfl, rfl⟩) ?_ ?_
      rotate_left
      ·
       simp only [Act.put, List.setIfInBounds_toArray, List.set_cons_zero, List.set_cons_succ, i64_w, i32_w]
       rfl
      refine pure_ (i := 25) (N := some 46) (v := undef) (a' := ?_) #[true, true, true, true, true, true, true, true, true, true, true, true, true, true, true, true, true, true, true, true, true, true, true, true, true, true, false, false] rfl rfl (any_of HT_.out (by kernel_rfl)) (fun _ _ _ h => h) (Or.inr ⟨by rfl, rfl⟩) ?_ ?_
      rotate_left
      ·
       simp only [Act.put, List.setIfInBounds_toArray, List.set_cons_zero, List.set_cons_succ, i64_w, i32_w]
       rfl
      refine pure_ (i := 26) (N := some 47) (v := undef) (a' := ?_) #[true, true, true, true, true, true, true, true, true, true, true, true, true, true, true, true, true, true, true, true, true, true, true, true, true, true, true, false] rfl rfl (any_of HT_.out (by kernel_rfl)) (fun _ _ _ h => h) (Or.inr ⟨by rfl, rfl⟩) ?_ ?_
      rotate_left
      ·
       simp only [Act.put, List.setIfInBounds_toArray, List.set_cons_zero, List.set_cons_succ, i64_w, i32_w]
       rfl
      refine pure_ (i := 27) (N := some 48) (v := ?_) (a' := ?_) #[true, true, true, true, true, true, true, true, true, true, true, true, true, true, true, true, true, true, true, true, true, true, true, true, true, true, true, true] rfl rfl (any_of HT_.out (by kernel_rfl)) (fun _ _ _ h => h) (Or.inl ⟨by rfl, ?_⟩) ?_ ?_
      rotate_left
      ·
       intro w'
       go_simp
       with_reducible rfl
      rotate_left
      ·
       simp only [Act.put, List.setIfInBounds_toArray, List.set_cons_zero, List.set_cons_succ, i64_w, i32_w]
       rfl
      refine done_ (done_of HT_.out (by kernel_rfl)) ?_
      try go_wp2
      go_meet
      case rel => exact ⟨_, (true), (by first | rfl | (simp; done) | (simp [*]; done)), H', ⟨by first | omega | exact Nat.le_refl _⟩, ⟨by (with_reducible repeat (first | apply bN_ | apply bD_ | apply bA_)); exact BK830.out⟩, ⟨by (with_reducible repeat (first | apply bN_ | apply bD_ | apply bA_)); exact BK837.out⟩, ⟨by repeat (first | (with_reducible first | exact HB.out | apply ba_ | apply bn_ | apply bd_ | refine below_set ?_ GE830.out | refine below_set ?_ GE837.out) | exact HB.out)⟩⟩
   ·
    replace c16 := Bool.eq_false_iff.mpr c16
    subst c16
    have H1 : ((iso_Keeps.f k t832 t833 t834 t835 t836 0).bind fun t848 => (honeycomblaw07_IsoGroup.j0 k (Int.tmod (Go.bits .and .i64 a1 255) 12) (!t848) t832 t833 t834 t835 t836)) = some r := by rw [if_neg (show ¬ (false = true) by decide)] at H; exact H
    clear H
    have H := H1
    clear H1
    replace H := Option.bind_eq_some_iff.mp H
    obtain ⟨t848, A590, H⟩ := H
    replace H : (honeycomblaw07_IsoGroup.j0 k (Int.tmod (Go.bits .and .i64 a1 255) 12) (!t848) t832 t833 t834 t835 t836) = some r := H
    have A59 := Aside0.mk A590
    clear A590
    have H' := Aside0.mk H
    clear H
    try go_wp2
    have n0_ : Aside0 ((((((w12.setCell ⟨gb837, 0, none⟩ (.int .i64 t832)).setCell ⟨gb837, 1, none⟩ (.int .u64 t833)).setCell ⟨gb837, 2, none⟩ (.int .u64 t834)).setCell ⟨gb837, 3, none⟩ (.int .u64 t835)).setCell ⟨gb837, 4, none⟩ (.int .u64 t836)).heap[gb830]? = some (.cells #[.int .i64 a0_0, .int .u64 a0_1, .int .u64 a0_2, .int .u64 a0_3, .int .u64 a0_4] 25 (0, 0))) := ⟨by (with_reducible repeat (first | apply bN_ | apply bD_ | apply bA_)); refine blk_far ?_ NB830_837.out _; (with_reducible repeat (first | apply bN_ | apply bD_ | apply bA_)); refine blk_far ?_ NB830_837.out _; (with_reducible repeat (first | apply bN_ | apply bD_ | apply bA_)); refine blk_far ?_ NB830_837.out _; (with_reducible repeat (first | apply bN_ | apply bD_ | apply bA_)); refine blk_far ?_ NB830_837.out _; (with_reducible repeat (first | apply bN_ | apply bD_ | apply bA_)); refine blk_far ?_ NB830_837.out _; (with_reducible repeat (first | apply bN_ | apply bD_ | apply bA_)); exact BK830.out⟩
    have n1_ : Aside0 ((((((w12.setCell ⟨gb837, 0, none⟩ (.int .i64 t832)).setCell ⟨gb837, 1, none⟩ (.int .u64 t833)).setCell ⟨gb837, 2, none⟩ (.int .u64 t834)).setCell ⟨gb837, 3, none⟩ (.int .u64 t835)).setCell ⟨gb837, 4, none⟩ (.int .u64 t836)).heap[gb837]? = some (.cells #[.int .i64 t832, .int .u64 t833, .int .u64 t834, .int .u64 t835, .int .u64 t836] 29 (0, 0))) := ⟨by (with_reducible repeat (first | apply bN_ | apply bD_ | apply bA_)); refine blk_put (cs := #[.int .i64 t832, .int .u64 t833, .int .u64 t834, .int .u64 t835, .int .u64 0]) ?_ 4 _ rfl; (with_reducible repeat (first | apply bN_ | apply bD_ | apply bA_)); refine blk_put (cs := #[.int .i64 t832, .int .u64 t833, .int .u64 t834, .int .u64 0, .int .u64 0]) ?_ 3 _ rfl; (with_reducible repeat (first | apply bN_ | apply bD_ | apply bA_)); refine blk_put (cs := #[.int .i64 t832, .int .u64 t833, .int .u64 0, .int .u64 0, .int .u64 0]) ?_ 2 _ rfl; (with_reducible repeat (first | apply bN_ | apply bD_ | apply bA_)); refine blk_put (cs := #[.int .i64 t832, .int .u64 0, .int .u64 0, .int .u64 0, .int .u64 0]) ?_ 1 _ rfl; (with_reducible repeat (first | apply bN_ | apply bD_ | apply bA_)); refine blk_put (cs := #[.int .i64 0, .int .u64 0, .int .u64 0, .int .u64 0, .int .u64 0]) ?_ 0 _ rfl; (with_reducible repeat (first | apply bN_ | apply bD_ | apply bA_)); exact BK837.out⟩
    have n2_ : Aside0 (Below w.heap.size w (((((w12.setCell ⟨gb837, 0, none⟩ (.int .i64 t832)).setCell ⟨gb837, 1, none⟩ (.int .u64 t833)).setCell ⟨gb837, 2, none⟩ (.int .u64 t834)).setCell ⟨gb837, 3, none⟩ (.int .u64 t835)).setCell ⟨gb837, 4, none⟩ (.int .u64 t836))) := ⟨by repeat (first | (with_reducible first | exact HB.out | apply ba_ | apply bn_ | apply bd_ | refine below_set ?_ GE830.out | refine below_set ?_ GE837.out) | exact HB.out)⟩
    (try clear BK830)
    (try clear BK837)
    (try clear HB)
    generalize (((((w12.setCell ⟨gb837, 0, none⟩ (.int .i64 t832)).setCell ⟨gb837, 1, none⟩ (.int .u64 t833)).setCell ⟨gb837, 2, none⟩ (.int .u64 t834)).setCell ⟨gb837, 3, none⟩ (.int .u64 t835)).setCell ⟨gb837, 4, none⟩ (.int .u64 t836)) = w60 at n0_ n1_ n2_ ⊢
    have BK830 := n0_
    have BK837 := n1_
    have HB := n2_
    clear n0_ n1_ n2_
    have n0_ := Aside0.mk (blk_drew BK830.out)
    have n1_ := Aside0.mk (blk_drew BK837.out)
    have n2_ := Aside0.mk (below_drew1 HB.out)
    clear BK830
    clear BK837
    clear HB
    have BK830 := n0_
    have BK837 := n1_
    have HB := n2_
    clear n0_ n1_ n2_
    refine start_ (n := 28) (S := fun w' => w'.cell? ⟨gb837, 0, none⟩ = some (.int .i64 t832) ∧ w'.cell? ⟨gb837, 1, none⟩ = some (.int .u64 t833) ∧ w'.cell? ⟨gb837, 2, none⟩ = some (.int .u64 t834) ∧ w'.cell? ⟨gb837, 3, none⟩ = some (.int .u64 t835) ∧ w'.cell? ⟨gb837, 4, none⟩ = some (.int .u64 t836)) (ds := []) #[false, false, false, false, false, false, false, false, false, false, false, false, false, false, false, false, false, false, false, false, false, false, false, false, false, false, false, false] (by kernel_rfl) rfl rfl ⟨(blk_cell BK837.out 0).trans rfl, (blk_cell BK837.out 1).trans rfl, (blk_cell BK837.out 2).trans rfl, (blk_cell BK837.out 3).trans rfl, (blk_cell BK837.out 4).trans rfl⟩ (fun hHeld => ?_); refine with_tabW honeycomblaw07_IsoGroup.tab5 honeycomblaw07_IsoGroup.bits5 (fun HT_ HW_ => ?_)
    generalize w60.drew = w61 at BK830 BK837 HB hHeld ⊢
    refine pure_ (i := 1) (N := some 22) (v := ?_) (a' := ?_) #[false, true, false, false, false, false, false, false, false, false, false, false, false, false, false, false, false, false, false, false, false, false, false, false, false, false, false, false] rfl rfl (any_of HT_.out (by kernel_rfl)) (fun _ _ _ h => h) (Or.inl ⟨by rfl, ?_⟩) ?_ ?_
    rotate_left
    ·
     intro w'
     go_simp
     with_reducible rfl
    rotate_left
    ·
     simp only [Act.put, List.setIfInBounds_toArray, List.set_cons_zero, List.set_cons_succ, i64_w, i32_w]
     rfl
    refine take_ (i := 0) (N := some 21) (v := ?_) (a' := ?_) #[true, true, false, false, false, false, false, false, false, false, false, false, false, false, false, false, false, false, false, false, false, false, false, false, false, false, false, false] rfl rfl (take_ofW HT_.out HW_.out (by kernel_rfl)) (fun _ _ _ h => h) (Or.inl ⟨by rfl, ?_⟩) hHeld ?_ ?_
    rotate_left
    ·
     rintro w' ⟨s0, s1, s2, s3, s4⟩
     go_simp
     with_reducible rfl
    rotate_left
    ·
     simp only [Act.put, List.setIfInBounds_toArray, List.set_cons_zero, List.set_cons_succ, i64_w, i32_w]
     rfl
    refine one_ (i := 2) (N := some 23) #[true, true, true, false, false, false, false, false, false, false, false, false, false, false, false, false, false, false, false, false, false, false, false, false, false, false, false, false] rfl rfl (one_of HT_.out (by kernel_rfl)) (by decide) (fun K hK => ?_)
    refine goes_ Tryd.func18 (by kernel_rfl) rfl #[.agg #[.int .i64 t832, .int .u64 t833, .int .u64 t834, .int .u64 t835, .int .u64 t836], .int .i64 (Int.tmod (Go.bits .and .i64 a1 255) 12)] (by rfl) rfl rfl (by (try simp only [List.map_toArray, List.map_cons, List.map_nil]); first | done | rfl | (simp only [List.length_drop, List.length_take]; rfl)) ?_
    with_reducible refine (iso_Keeps.calls k t832 t833 t834 t835 t836 (Int.tmod (Go.bits .and .i64 a1 255) 12) false _ ?side1 A15.out).mono ?_
    (case side1 => exact HGSix.out.below (by repeat (first | (with_reducible first | exact HB.out | apply ba_ | apply bn_ | apply bd_ | refine below_set ?_ GE830.out | refine below_set ?_ GE837.out) | exact HB.out)))
    rintro e w62 ⟨rfl, hb⟩
    refine ⟨_, rfl, ?_⟩
    have n0_ := Aside0.mk (blk_below (g := gb830) (o := .cells #[.int .i64 a0_0, .int .u64 a0_1, .int .u64 a0_2, .int .u64 a0_3, .int .u64 a0_4] 25 (0, 0)) (by (with_reducible repeat (first | apply bN_ | apply bD_ | apply bA_)); exact BK830.out) hb)
    have n1_ := Aside0.mk (blk_below (g := gb837) (o := .cells #[.int .i64 t832, .int .u64 t833, .int .u64 t834, .int .u64 t835, .int .u64 t836] 29 (0, 0)) (by (with_reducible repeat (first | apply bN_ | apply bD_ | apply bA_)); exact BK837.out) hb)
    have n2_ := Aside0.mk (below_step (by repeat (first | (with_reducible first | exact HB.out | apply ba_ | apply bn_ | apply bd_ | refine below_set ?_ GE830.out | refine below_set ?_ GE837.out) | exact HB.out)) hb)
    clear BK830
    clear BK837
    clear HB
    have BK830 := n0_
    have BK837 := n1_
    have HB := n2_
    clear n0_ n1_ n2_
    (try clear hb)
    (try clear hb2)
    (try clear hk)
    (try clear hi)
    refine hK.out _ _ ⟨(blk_cell BK837.out 0).trans rfl, (blk_cell BK837.out 1).trans rfl, (blk_cell BK837.out 2).trans rfl, (blk_cell BK837.out 3).trans rfl, (blk_cell BK837.out 4).trans rfl⟩ (fun hHeld => ?_)
    clear hK K
    refine norm_ (a' := ?_) ?_ ?_
    rotate_left
    ·
     show Act.put _ (some 23) _ = _
     simp only [Act.put, List.setIfInBounds_toArray, List.set_cons_zero, List.set_cons_succ, i64_w, i32_w]
     rfl
    refine pure_ (i := 3) (N := some 24) (v := ?_) (a' := ?_) #[true, true, true, true, false, false, false, false, false, false, false, false, false, false, false, false, false, false, false, false, false, false, false, false, false, false, false, false] rfl rfl (any_of HT_.out (by kernel_rfl)) (fun _ _ _ h => h) (Or.inl ⟨by rfl, ?_⟩) ?_ ?_
    rotate_left
    ·
     intro w'
     go_simp
     with_reducible rfl
    rotate_left
    ·
     simp only [Act.put, List.setIfInBounds_toArray, List.set_cons_zero, List.set_cons_succ, i64_w, i32_w]
     rfl
    refine pure_ (i := 4) (N := some 25) (v := undef) (a' := ?_) #[true, true, true, true, true, false, false, false, false, false, false, false, false, false, false, false, false, false, false, false, false, false, false, false, false, false, false, false] rfl rfl (any_of HT_.out (by kernel_rfl)) (fun _ _ _ h => h) (Or.inr ⟨by rfl, rfl⟩) ?_ ?_
    rotate_left
    ·
     simp only [Act.put, List.setIfInBounds_toArray, List.set_cons_zero, List.set_cons_succ, i64_w, i32_w]
     rfl
    refine pure_ (i := 5) (N := some 26) (v := undef) (a' := ?_) #[true, true, true, true, true, true, false, false, false, false, false, false, false, false, false, false, false, false, false, false, false, false, false, false, false, false, false, false] rfl rfl (any_of HT_.out (by kernel_rfl)) (fun _ _ _ h => h) (Or.inr ⟨by rfl, rfl⟩) ?_ ?_
    rotate_left
    ·
     simp only [Act.put, List.setIfInBounds_toArray, List.set_cons_zero, List.set_cons_succ, i64_w, i32_w]
     rfl
    refine pure_ (i := 6) (N := some 27) (v := undef) (a' := ?_) #[true, true, true, true, true, true, true, false, false, false, false, false, false, false, false, false, false, false, false, false, false, false, false, false, false, false, false, false] rfl rfl (any_of HT_.out (by kernel_rfl)) (fun _ _ _ h => h) (Or.inr ⟨by rfl, rfl⟩) ?_ ?_
    rotate_left
    ·
     simp only [Act.put, List.setIfInBounds_toArray, List.set_cons_zero, List.set_cons_succ, i64_w, i32_w]
     rfl
    refine pure_ (i := 7) (N := some 28) (v := undef) (a' := ?_) #[true, true, true, true, true, true, true, true, false, false, false, false, false, false, false, false, false, false, false, false, false, false, false, false, false, false, false, false] rfl rfl (any_of HT_.out (by kernel_rfl)) (fun _ _ _ h => h) (Or.inr ⟨by rfl, rfl⟩) ?_ ?_
    rotate_left
    ·
     simp only [Act.put, List.setIfInBounds_toArray, List.set_cons_zero, List.set_cons_succ, i64_w, i32_w]
     rfl
    refine pure_ (i := 8) (N := some 29) (v := undef) (a' := ?_) #[true, true, true, true, true, true, true, true, true, false, false, false, false, false, false, false, false, false, false, false, false, false, false, false, false, false, false, false] rfl rfl (any_of HT_.out (by kernel_rfl)) (fun _ _ _ h => h) (Or.inr ⟨by rfl, rfl⟩) ?_ ?_
    rotate_left
    ·
     simp only [Act.put, List.setIfInBounds_toArray, List.set_cons_zero, List.set_cons_succ, i64_w, i32_w]
     rfl
    refine pure_ (i := 9) (N := some 30) (v := undef) (a' := ?_) #[true, true, true, true, true, true, true, true, true, true, false, false, false, false, false, false, false, false, false, false, false, false, false, false, false, false, false, false] rfl rfl (any_of HT_.out (by kernel_rfl)) (fun _ _ _ h => h) (Or.inr ⟨by rfl, rfl⟩) ?_ ?_
    rotate_left
    ·
     simp only [Act.put, List.setIfInBounds_toArray, List.set_cons_zero, List.set_cons_succ, i64_w, i32_w]
     rfl
    refine pure_ (i := 10) (N := some 31) (v := undef) (a' := ?_) #[true, true, true, true, true, true, true, true, true, true, true, false, false, false, false, false, false, false, false, false, false, false, false, false, false, false, false, false] rfl rfl (any_of HT_.out (by kernel_rfl)) (fun _ _ _ h => h) (Or.inr ⟨by rfl, rfl⟩) ?_ ?_
    rotate_left
    ·
     simp only [Act.put, List.setIfInBounds_toArray, List.set_cons_zero, List.set_cons_succ, i64_w, i32_w]
     rfl
    refine pure_ (i := 11) (N := some 32) (v := undef) (a' := ?_) #[true, true, true, true, true, true, true, true, true, true, true, true, false, false, false, false, false, false, false, false, false, false, false, false, false, false, false, false] rfl rfl (any_of HT_.out (by kernel_rfl)) (fun _ _ _ h => h) (Or.inr ⟨by rfl, rfl⟩) ?_ ?_
    rotate_left
    ·
     simp only [Act.put, List.setIfInBounds_toArray, List.set_cons_zero, List.set_cons_succ, i64_w, i32_w]
     rfl
    refine pure_ (i := 12) (N := some 33) (v := undef) (a' := ?_) #[true, true, true, true, true, true, true, true, true, true, true, true, true, false, false, false, false, false, false, false, false, false, false, false, false, false, false, false] rfl rfl (any_of HT_.out (by kernel_rfl)) (fun _ _ _ h => h) (Or.inr ⟨by rfl, rfl⟩) ?_ ?_
    rotate_left
    ·
     simp only [Act.put, List.setIfInBounds_toArray, List.set_cons_zero, List.set_cons_succ, i64_w, i32_w]
     rfl
    refine pure_ (i := 13) (N := some 34) (v := undef) (a' := ?_) #[true, true, true, true, true, true, true, true, true, true, true, true, true, true, false, false, false, false, false, false, false, false, false, false, false, false, false, false] rfl rfl (any_of HT_.out (by kernel_rfl)) (fun _ _ _ h => h) (Or.inr ⟨by rfl, rfl⟩) ?_ ?_
    rotate_left
    ·
     simp only [Act.put, List.setIfInBounds_toArray, List.set_cons_zero, List.set_cons_succ, i64_w, i32_w]
     rfl
    refine pure_ (i := 14) (N := some 35) (v := undef) (a' := ?_) #[true, true, true, true, true, true, true, true, true, true, true, true, true, true, true, false, false, false, false, false, false, false, false, false, false, false, false, false] rfl rfl (any_of HT_.out (by kernel_rfl)) (fun _ _ _ h => h) (Or.inr ⟨by rfl, rfl⟩) ?_ ?_
    rotate_left
    ·
     simp only [Act.put, List.setIfInBounds_toArray, List.set_cons_zero, List.set_cons_succ, i64_w, i32_w]
     rfl
    refine pure_ (i := 15) (N := some 36) (v := undef) (a' := ?_) #[true, true, true, true, true, true, true, true, true, true, true, true, true, true, true, true, false, false, false, false, false, false, false, false, false, false, false, false] rfl rfl (any_of HT_.out (by kernel_rfl)) (fun _ _ _ h => h) (Or.inr ⟨by rfl, rfl⟩) ?_ ?_
    rotate_left
    ·
     simp only [Act.put, List.setIfInBounds_toArray, List.set_cons_zero, List.set_cons_succ, i64_w, i32_w]
     rfl
    refine pure_ (i := 16) (N := some 37) (v := undef) (a' := ?_) #[true, true, true, true, true, true, true, true, true, true, true, true, true, true, true, true, true, false, false, false, false, false, false, false, false, false, false, false] rfl rfl (any_of HT_.out (by kernel_rfl)) (fun _ _ _ h => h) (Or.inr ⟨by rfl, rfl⟩) ?_ ?_
    rotate_left
    ·
     simp only [Act.put, List.setIfInBounds_toArray, List.set_cons_zero, List.set_cons_succ, i64_w, i32_w]
     rfl
    refine pure_ (i := 17) (N := some 38) (v := undef) (a' := ?_) #[true, true, true, true, true, true, true, true, true, true, true, true, true, true, true, true, true, true, false, false, false, false, false, false, false, false, false, false] rfl rfl (any_of HT_.out (by kernel_rfl)) (fun _ _ _ h => h) (Or.inr ⟨by rfl, rfl⟩) ?_ ?_
    rotate_left
    ·
     simp only [Act.put, List.setIfInBounds_toArray, List.set_cons_zero, List.set_cons_succ, i64_w, i32_w]
     rfl
    refine pure_ (i := 18) (N := some 39) (v := undef) (a' := ?_) #[true, true, true, true, true, true, true, true, true, true, true, true, true, true, true, true, true, true, true, false, false, false, false, false, false, false, false, false] rfl rfl (any_of HT_.out (by kernel_rfl)) (fun _ _ _ h => h) (Or.inr ⟨by rfl, rfl⟩) ?_ ?_
    rotate_left
    ·
     simp only [Act.put, List.setIfInBounds_toArray, List.set_cons_zero, List.set_cons_succ, i64_w, i32_w]
     rfl
    refine pure_ (i := 19) (N := some 40) (v := undef) (a' := ?_) #[true, true, true, true, true, true, true, true, true, true, true, true, true, true, true, true, true, true, true, true, false, false, false, false, false, false, false, false] rfl rfl (any_of HT_.out (by kernel_rfl)) (fun _ _ _ h => h) (Or.inr ⟨by rfl, rfl⟩) ?_ ?_
    rotate_left
    ·
     simp only [Act.put, List.setIfInBounds_toArray, List.set_cons_zero, List.set_cons_succ, i64_w, i32_w]
     rfl
    refine pure_ (i := 20) (N := some 41) (v := undef) (a' := ?_) #[true, true, true, true, true, true, true, true, true, true, true, true, true, true, true, true, true, true, true, true, true, false, false, false, false, false, false, false] rfl rfl (any_of HT_.out (by kernel_rfl)) (fun _ _ _ h => h) (Or.inr ⟨by rfl, rfl⟩) ?_ ?_
    rotate_left
    ·
     simp only [Act.put, List.setIfInBounds_toArray, List.set_cons_zero, List.set_cons_succ, i64_w, i32_w]
     rfl
    refine pure_ (i := 21) (N := some 42) (v := undef) (a' := ?_) #[true, true, true, true, true, true, true, true, true, true, true, true, true, true, true, true, true, true, true, true, true, true, false, false, false, false, false, false] rfl rfl (any_of HT_.out (by kernel_rfl)) (fun _ _ _ h => h) (Or.inr ⟨by rfl, rfl⟩) ?_ ?_
    rotate_left
    ·
     simp only [Act.put, List.setIfInBounds_toArray, List.set_cons_zero, List.set_cons_succ, i64_w, i32_w]
     rfl
    refine pure_ (i := 22) (N := some 43) (v := ?_) (a' := ?_) #[true, true, true, true, true, true, true, true, true, true, true, true, true, true, true, true, true, true, true, true, true, true, true, false, false, false, false, false] rfl rfl (any_of HT_.out (by kernel_rfl)) (fun _ _ _ h => h) (Or.inl ⟨by rfl, ?_⟩) ?_ ?_
    rotate_left
    ·
     intro w'
     go_simp
     with_reducible rfl
    rotate_left
    ·
     simp only [Act.put, List.setIfInBounds_toArray, List.set_cons_zero, List.set_cons_succ, i64_w, i32_w]
     rfl
    refine pure_ (i := 23) (N := some 44) (v := ?_) (a' := ?_) #[true, true, true, true, true, true, true, true, true, true, true, true, true, true, true, true, true, true, true, true, true, true, true, true, false, false, false, false] rfl rfl (any_of HT_.out (by kernel_rfl)) (fun _ _ _ h => h) (Or.inl ⟨by rfl, ?_⟩) ?_ ?_
    rotate_left
    ·
     intro w'
     go_simp
     with_reducible rfl
    rotate_left
    ·
     simp only [Act.put, List.setIfInBounds_toArray, List.set_cons_zero, List.set_cons_succ, i64_w, i32_w]
     rfl
    refine take_ (i := 24) (N := some 45) (v := ?_) (a' := ?_) #[true, true, true, true, true, true, true, true, true, true, true, true, true, true, true, true, true, true, true, true, true, true, true, true, true, false, false, false] rfl rfl (take_ofW HT_.out HW_.out (by kernel_rfl)) (fun _ _ _ h => h) (Or.inl ⟨by rfl, ?_⟩) hHeld ?_ ?_
    rotate_left
    ·
     rintro w' ⟨s0, s1, s2, s3, s4⟩
     go_simp
     with_reducible rfl
    rotate_left
    ·
     simp only [Act.put, List.setIfInBounds_toArray, List.set_cons_zero, List.set_cons_succ, i64_w, i32_w]
     rfl
    refine one_ (i := 25) (N := some 46) #[true, true, true, true, true, true, true, true, true, true, true, true, true, true, true, true, true, true, true, true, true, true, true, true, true, true, false, false] rfl rfl (one_of HT_.out (by kernel_rfl)) (by decide) (fun K hK => ?_)
    refine goes_ Tryd.func18 (by kernel_rfl) rfl #[.agg #[.int .i64 t832, .int .u64 t833, .int .u64 t834, .int .u64 t835, .int .u64 t836], .int .i64 0] (by rfl) rfl rfl (by (try simp only [List.map_toArray, List.map_cons, List.map_nil]); first | done | rfl | (simp only [List.length_drop, List.length_take]; rfl)) ?_
    with_reducible refine (iso_Keeps.calls k t832 t833 t834 t835 t836 0 t848 _ ?side1 A59.out).mono ?_
    (case side1 => exact HGSix.out.below (by repeat (first | (with_reducible first | exact HB.out | apply ba_ | apply bn_ | apply bd_ | refine below_set ?_ GE830.out | refine below_set ?_ GE837.out) | exact HB.out)))
    rintro e w63 ⟨rfl, hb⟩
    refine ⟨_, rfl, ?_⟩
    have n0_ := Aside0.mk (blk_below (g := gb830) (o := .cells #[.int .i64 a0_0, .int .u64 a0_1, .int .u64 a0_2, .int .u64 a0_3, .int .u64 a0_4] 25 (0, 0)) (by (with_reducible repeat (first | apply bN_ | apply bD_ | apply bA_)); exact BK830.out) hb)
    have n1_ := Aside0.mk (blk_below (g := gb837) (o := .cells #[.int .i64 t832, .int .u64 t833, .int .u64 t834, .int .u64 t835, .int .u64 t836] 29 (0, 0)) (by (with_reducible repeat (first | apply bN_ | apply bD_ | apply bA_)); exact BK837.out) hb)
    have n2_ := Aside0.mk (below_step (by repeat (first | (with_reducible first | exact HB.out | apply ba_ | apply bn_ | apply bd_ | refine below_set ?_ GE830.out | refine below_set ?_ GE837.out) | exact HB.out)) hb)
    clear BK830
    clear BK837
    clear HB
    have BK830 := n0_
    have BK837 := n1_
    have HB := n2_
    clear n0_ n1_ n2_
    (try clear hb)
    (try clear hb2)
    (try clear hk)
    (try clear hi)
    refine hK.out _ _ ⟨(blk_cell BK837.out 0).trans rfl, (blk_cell BK837.out 1).trans rfl, (blk_cell BK837.out 2).trans rfl, (blk_cell BK837.out 3).trans rfl, (blk_cell BK837.out 4).trans rfl⟩ (fun hHeld => ?_)
    clear hK K
    refine norm_ (a' := ?_) ?_ ?_
    rotate_left
    ·
     show Act.put _ (some 46) _ = _
     simp only [Act.put, List.setIfInBounds_toArray, List.set_cons_zero, List.set_cons_succ, i64_w, i32_w]
     rfl
    refine pure_ (i := 26) (N := some 47) (v := ?_) (a' := ?_) #[true, true, true, true, true, true, true, true, true, true, true, true, true, true, true, true, true, true, true, true, true, true, true, true, true, true, true, false] rfl rfl (any_of HT_.out (by kernel_rfl)) (fun _ _ _ h => h) (Or.inl ⟨by rfl, ?_⟩) ?_ ?_
    rotate_left
    ·
     intro w'
     go_simp
     with_reducible rfl
    rotate_left
    ·
     simp only [Act.put, List.setIfInBounds_toArray, List.set_cons_zero, List.set_cons_succ, i64_w, i32_w]
     rfl
    refine pure_ (i := 27) (N := some 48) (v := ?_) (a' := ?_) #[true, true, true, true, true, true, true, true, true, true, true, true, true, true, true, true, true, true, true, true, true, true, true, true, true, true, true, true] rfl rfl (any_of HT_.out (by kernel_rfl)) (fun _ _ _ h => h) (Or.inl ⟨by rfl, ?_⟩) ?_ ?_
    rotate_left
    ·
     intro w'
     go_simp
     with_reducible rfl
    rotate_left
    ·
     simp only [Act.put, List.setIfInBounds_toArray, List.set_cons_zero, List.set_cons_succ, i64_w, i32_w]
     rfl
    refine done_ (done_of HT_.out (by kernel_rfl)) ?_
    try go_wp2
    go_meet
    case rel => exact ⟨_, (!t848), (by first | rfl | (simp; done) | (simp [*]; done)), H', ⟨by first | omega | exact Nat.le_refl _⟩, ⟨by (with_reducible repeat (first | apply bN_ | apply bD_ | apply bA_)); exact BK830.out⟩, ⟨by (with_reducible repeat (first | apply bN_ | apply bD_ | apply bA_)); exact BK837.out⟩, ⟨by repeat (first | (with_reducible first | exact HB.out | apply ba_ | apply bn_ | apply bd_ | refine below_set ?_ GE830.out | refine below_set ?_ GE837.out) | exact HB.out)⟩⟩
  case rest =>
   clear HC7
   try clear c1
   try clear p2
   try clear c4
   try clear c16
   try clear c18
   try clear c46
   obtain ⟨kq, x48_6, rfl, HA, HJ6, BK830, BK837, HB⟩ := hcut
   cases kq with
   | zero => exact absurd HA.out (by simp [honeycomblaw07_IsoGroup.j0])
   | succ kj6 =>
    have H := HA.out
    clear HA
    simp only [honeycomblaw07_IsoGroup.j0] at H
    by_cases c64 : x48_6 = true
    ·
     subst c64
     have H1 : (some false) = some r := by rw [if_pos rfl] at H; exact H
     clear H
     have H := H1
     clear H1
     exact absurd ((Option.some.inj H).trans Hr_.out) (by decide)
    ·
     replace c64 := Bool.eq_false_iff.mpr c64
     subst c64
     have H1 : ((honeycomblaw07_whole.f kj6 t832 t833 t834 t835 t836).bind fun bt849 => ((iso_Keeps.f kj6 bt849.1 bt849.2.1 bt849.2.2.1 bt849.2.2.2.1 bt849.2.2.2.2 (Int.tmod (Go.bits .and .i64 a1 255) 12)).bind fun t855 => (if t855 = true then (if bt849.1 = 1 then ((rule_Total.f kj6 bt849.2.1).bind fun t856 => (if t856 = true then ((rule_Total.f kj6 bt849.2.2.2.1).bind fun t857 => (some t857)) else (some false))) else (some true)) else (some false)))) = some r := by rw [if_neg (show ¬ (false = true) by decide)] at H; exact H
     clear H
     have H := H1
     clear H1
     replace H := Option.bind_eq_some_iff.mp H
     obtain ⟨⟨t849, t850, t851, t852, t853⟩, A650, H⟩ := H
     replace H : ((iso_Keeps.f kj6 t849 t850 t851 t852 t853 (Int.tmod (Go.bits .and .i64 a1 255) 12)).bind fun t855 => (if t855 = true then (if t849 = 1 then ((rule_Total.f kj6 t850).bind fun t856 => (if t856 = true then ((rule_Total.f kj6 t852).bind fun t857 => (some t857)) else (some false))) else (some true)) else (some false))) = some r := H
     have A65 := Aside0.mk A650
     clear A650
     replace H := Option.bind_eq_some_iff.mp H
     obtain ⟨t855, A660, H⟩ := H
     replace H : (if t855 = true then (if t849 = 1 then ((rule_Total.f kj6 t850).bind fun t856 => (if t856 = true then ((rule_Total.f kj6 t852).bind fun t857 => (some t857)) else (some false))) else (some true)) else (some false)) = some r := H
     have A66 := Aside0.mk A660
     clear A660
     by_cases c67 : t855 = true
     ·
      subst c67
      have H1 : (if t849 = 1 then ((rule_Total.f kj6 t850).bind fun t856 => (if t856 = true then ((rule_Total.f kj6 t852).bind fun t857 => (some t857)) else (some false))) else (some true)) = some r := by rw [if_pos rfl] at H; exact H
      clear H
      have H := H1
      clear H1
      by_cases c68 : t849 = 1
      ·
       rw [if_pos c68] at H
       have c68b0 : (t849 == 1) = true := beq_iff_eq.mpr c68
       have c68b1 : (t849 != 1) = false := bne_eq_false_iff_eq.mpr c68
       clear c68
       replace H := Option.bind_eq_some_iff.mp H
       obtain ⟨t856, A690, H⟩ := H
       replace H : (if t856 = true then ((rule_Total.f kj6 t852).bind fun t857 => (some t857)) else (some false)) = some r := H
       have A69 := Aside0.mk A690
       clear A690
       by_cases c70 : t856 = true
       ·
        subst c70
        have H1 : ((rule_Total.f kj6 t852).bind fun t857 => (some t857)) = some r := by rw [if_pos rfl] at H; exact H
        clear H
        have H := H1
        clear H1
        replace H := Option.bind_eq_some_iff.mp H
        obtain ⟨t857, A710, H⟩ := H
        replace H : (some t857) = some r := H
        have A71 := Aside0.mk A710
        clear A710
        obtain rfl := Option.some.inj H
        have hnb72 := NB837_830.out
        have hnc72 := NB830_837.out
        have hcz73_0 : wc.cell? ⟨gb837, 0, none⟩ = some (.int .i64 t832) := (blk_cell BK837.out 0).trans rfl
        have hcz73_1 : wc.cell? ⟨gb837, 1, none⟩ = some (.int .u64 t833) := (blk_cell BK837.out 1).trans rfl
        have hcz73_2 : wc.cell? ⟨gb837, 2, none⟩ = some (.int .u64 t834) := (blk_cell BK837.out 2).trans rfl
        have hcz73_3 : wc.cell? ⟨gb837, 3, none⟩ = some (.int .u64 t835) := (blk_cell BK837.out 3).trans rfl
        have hcz73_4 : wc.cell? ⟨gb837, 4, none⟩ = some (.int .u64 t836) := (blk_cell BK837.out 4).trans rfl
        have hfz73_0 := blk_frozen BK837.out 0
        have hfz73_1 := blk_frozen BK837.out 1
        have hfz73_2 := blk_frozen BK837.out 2
        have hfz73_3 := blk_frozen BK837.out 3
        have hfz73_4 := blk_frozen BK837.out 4
        go_wp2_with (first | ((with_reducible refine gate_callee (f := 39) rfl ?_); refine goesL_ (some 50) rfl rfl Tryd.func39 (by kernel_rfl) rfl #[.agg #[.int .i64 t832, .int .u64 t833, .int .u64 t834, .int .u64 t835, .int .u64 t836]] rfl (by (try simp only [List.map_toArray, List.map_cons, List.map_nil]); first | done | rfl | (simp only [List.length_drop, List.length_take]; rfl)) ?_; (with_reducible refine (honeycomblaw07_whole.calls kj6 t832 t833 t834 t835 t836 t849 t850 t851 t852 t853 _ A65.out).mono ?_); rintro e w74 ⟨rfl, hb⟩; refine ⟨_, rfl, ?_⟩; have n0_ := Aside0.mk (blk_below (g := gb830) (o := .cells #[.int .i64 a0_0, .int .u64 a0_1, .int .u64 a0_2, .int .u64 a0_3, .int .u64 a0_4] 25 (0, 0)) (by (with_reducible repeat (first | apply bN_ | apply bD_ | apply bA_)); exact BK830.out) hb); have n1_ := Aside0.mk (blk_below (g := gb837) (o := .cells #[.int .i64 t832, .int .u64 t833, .int .u64 t834, .int .u64 t835, .int .u64 t836] 29 (0, 0)) (by (with_reducible repeat (first | apply bN_ | apply bD_ | apply bA_)); exact BK837.out) hb); have n2_ := Aside0.mk (below_step (by repeat (first | (with_reducible first | exact HB.out | apply ba_ | apply bn_ | apply bd_ | refine below_set ?_ GE830.out | refine below_set ?_ GE837.out) | exact HB.out)) hb); clear BK830; clear BK837; clear HB; have BK830 := n0_; have BK837 := n1_; have HB := n2_; clear n0_ n1_ n2_; (try clear hb); (try clear hb2); (try clear hk); (try clear hi)) | ((with_reducible refine gate_dst (N := 10) rfl ?_); refine box_event ?hg (N := 10) ?hd (cs := #[.int .i64 0, .int .u64 0, .int .u64 0, .int .u64 0, .int .u64 0]) (t := 29) ?hr ?_; (case hd => rfl); (case hg => rfl); (case hr => first | (go_simp; done) | (go_simp; rfl)); intro gb854 hg w75 hbox hb; have n0_ := Aside0.mk (blk_below (g := gb830) (o := .cells #[.int .i64 a0_0, .int .u64 a0_1, .int .u64 a0_2, .int .u64 a0_3, .int .u64 a0_4] 25 (0, 0)) (by (with_reducible repeat (first | apply bN_ | apply bD_ | apply bA_)); exact BK830.out) hb); have n1_ := Aside0.mk (blk_below (g := gb837) (o := .cells #[.int .i64 t832, .int .u64 t833, .int .u64 t834, .int .u64 t835, .int .u64 t836] 29 (0, 0)) (by (with_reducible repeat (first | apply bN_ | apply bD_ | apply bA_)); exact BK837.out) hb); have n2_ := Aside0.mk (below_step (by repeat (first | (with_reducible first | exact HB.out | apply ba_ | apply bn_ | apply bd_ | refine below_set ?_ GE830.out | refine below_set ?_ GE837.out) | exact HB.out)) hb); have n3_ := Aside0.mk (hbox); have n4_ := Aside0.mk ((by rw [hg]; exact (below_size (by repeat (first | (with_reducible first | exact HB.out | apply ba_ | apply bn_ | apply bd_ | refine below_set ?_ GE830.out | refine below_set ?_ GE837.out) | exact HB.out))) : w.heap.size ≤ gb854)); have n5_ := Aside0.mk ((by rw [hg]; exact (below_size (by repeat (first | (with_reducible first | exact HB.out | apply ba_ | apply bn_ | apply bd_ | refine below_set ?_ GE830.out | refine below_set ?_ GE837.out) | exact HB.out))) : w.heap.size ≤ gb854)); have n6_ := Aside0.mk ((by rw [hg]; exact Nat.ne_of_lt (blk_lt (g := gb830) (o := .cells #[.int .i64 a0_0, .int .u64 a0_1, .int .u64 a0_2, .int .u64 a0_3, .int .u64 a0_4] 25 (0, 0)) (by (with_reducible repeat (first | apply bN_ | apply bD_ | apply bA_)); exact BK830.out)) : gb830 ≠ gb854)); have n7_ := Aside0.mk ((by rw [hg]; exact Nat.ne_of_gt (blk_lt (g := gb830) (o := .cells #[.int .i64 a0_0, .int .u64 a0_1, .int .u64 a0_2, .int .u64 a0_3, .int .u64 a0_4] 25 (0, 0)) (by (with_reducible repeat (first | apply bN_ | apply bD_ | apply bA_)); exact BK830.out)) : gb854 ≠ gb830)); have n8_ := Aside0.mk ((by rw [hg]; exact Nat.ne_of_lt (blk_lt (g := gb837) (o := .cells #[.int .i64 t832, .int .u64 t833, .int .u64 t834, .int .u64 t835, .int .u64 t836] 29 (0, 0)) (by (with_reducible repeat (first | apply bN_ | apply bD_ | apply bA_)); exact BK837.out)) : gb837 ≠ gb854)); have n9_ := Aside0.mk ((by rw [hg]; exact Nat.ne_of_gt (blk_lt (g := gb837) (o := .cells #[.int .i64 t832, .int .u64 t833, .int .u64 t834, .int .u64 t835, .int .u64 t836] 29 (0, 0)) (by (with_reducible repeat (first | apply bN_ | apply bD_ | apply bA_)); exact BK837.out)) : gb854 ≠ gb837)); clear BK830; clear BK837; clear HB; have BK830 := n0_; have BK837 := n1_; have HB := n2_; have BK854 := n3_; have GW854 := n4_; have GE854 := n5_; have NB830_854 := n6_; have NB854_830 := n7_; have NB837_854 := n8_; have NB854_837 := n9_; clear n0_ n1_ n2_ n3_ n4_ n5_ n6_ n7_ n8_ n9_; clear hb hbox hg; have hnb76 := NB854_830.out; have hnc76 := NB830_854.out; have hnb77 := NB854_837.out; have hnc77 := NB837_854.out; have hcz78_0 : w75.cell? ⟨gb854, 0, none⟩ = some (.int .i64 0) := (blk_cell BK854.out 0).trans rfl; have hcz78_1 : w75.cell? ⟨gb854, 1, none⟩ = some (.int .u64 0) := (blk_cell BK854.out 1).trans rfl; have hcz78_2 : w75.cell? ⟨gb854, 2, none⟩ = some (.int .u64 0) := (blk_cell BK854.out 2).trans rfl; have hcz78_3 : w75.cell? ⟨gb854, 3, none⟩ = some (.int .u64 0) := (blk_cell BK854.out 3).trans rfl; have hcz78_4 : w75.cell? ⟨gb854, 4, none⟩ = some (.int .u64 0) := (blk_cell BK854.out 4).trans rfl; have hfz78_0 := blk_frozen BK854.out 0; have hfz78_1 := blk_frozen BK854.out 1; have hfz78_2 := blk_frozen BK854.out 2; have hfz78_3 := blk_frozen BK854.out 3; have hfz78_4 := blk_frozen BK854.out 4) | ((with_reducible refine gate_callee (f := 18) rfl ?_); refine goesL_ (some 53) rfl rfl Tryd.func18 (by kernel_rfl) rfl #[.agg #[.int .i64 t849, .int .u64 t850, .int .u64 t851, .int .u64 t852, .int .u64 t853], .int .i64 (Int.tmod (Go.bits .and .i64 a1 255) 12)] rfl (by (try simp only [List.map_toArray, List.map_cons, List.map_nil]); first | done | rfl | (simp only [List.length_drop, List.length_take]; rfl)) ?_; (with_reducible refine (iso_Keeps.calls kj6 t849 t850 t851 t852 t853 (Int.tmod (Go.bits .and .i64 a1 255) 12) true _ ?side1 A66.out).mono ?_); (case side1 => exact HGSix.out.below (by repeat (first | (with_reducible first | exact HB.out | apply ba_ | apply bn_ | apply bd_ | refine below_set ?_ GE830.out | refine below_set ?_ GE837.out | refine below_set ?_ GE854.out) | exact HB.out))); rintro e w79 ⟨rfl, hb⟩; refine ⟨_, rfl, ?_⟩; have n0_ := Aside0.mk (blk_below (g := gb830) (o := .cells #[.int .i64 a0_0, .int .u64 a0_1, .int .u64 a0_2, .int .u64 a0_3, .int .u64 a0_4] 25 (0, 0)) (by (with_reducible repeat (first | apply bN_ | apply bD_ | apply bA_)); refine blk_far ?_ NB830_854.out _; (with_reducible repeat (first | apply bN_ | apply bD_ | apply bA_)); refine blk_far ?_ NB830_854.out _; (with_reducible repeat (first | apply bN_ | apply bD_ | apply bA_)); refine blk_far ?_ NB830_854.out _; (with_reducible repeat (first | apply bN_ | apply bD_ | apply bA_)); refine blk_far ?_ NB830_854.out _; (with_reducible repeat (first | apply bN_ | apply bD_ | apply bA_)); refine blk_far ?_ NB830_854.out _; (with_reducible repeat (first | apply bN_ | apply bD_ | apply bA_)); exact BK830.out) hb); have n1_ := Aside0.mk (blk_below (g := gb837) (o := .cells #[.int .i64 t832, .int .u64 t833, .int .u64 t834, .int .u64 t835, .int .u64 t836] 29 (0, 0)) (by (with_reducible repeat (first | apply bN_ | apply bD_ | apply bA_)); refine blk_far ?_ NB837_854.out _; (with_reducible repeat (first | apply bN_ | apply bD_ | apply bA_)); refine blk_far ?_ NB837_854.out _; (with_reducible repeat (first | apply bN_ | apply bD_ | apply bA_)); refine blk_far ?_ NB837_854.out _; (with_reducible repeat (first | apply bN_ | apply bD_ | apply bA_)); refine blk_far ?_ NB837_854.out _; (with_reducible repeat (first | apply bN_ | apply bD_ | apply bA_)); refine blk_far ?_ NB837_854.out _; (with_reducible repeat (first | apply bN_ | apply bD_ | apply bA_)); exact BK837.out) hb); have n2_ := Aside0.mk (blk_below (g := gb854) (o := .cells #[.int .i64 t849, .int .u64 t850, .int .u64 t851, .int .u64 t852, .int .u64 t853] 29 (0, 0)) (by (with_reducible repeat (first | apply bN_ | apply bD_ | apply bA_)); refine blk_put (cs := #[.int .i64 t849, .int .u64 t850, .int .u64 t851, .int .u64 t852, .int .u64 0]) ?_ 4 _ rfl; (with_reducible repeat (first | apply bN_ | apply bD_ | apply bA_)); refine blk_put (cs := #[.int .i64 t849, .int .u64 t850, .int .u64 t851, .int .u64 0, .int .u64 0]) ?_ 3 _ rfl; (with_reducible repeat (first | apply bN_ | apply bD_ | apply bA_)); refine blk_put (cs := #[.int .i64 t849, .int .u64 t850, .int .u64 0, .int .u64 0, .int .u64 0]) ?_ 2 _ rfl; (with_reducible repeat (first | apply bN_ | apply bD_ | apply bA_)); refine blk_put (cs := #[.int .i64 t849, .int .u64 0, .int .u64 0, .int .u64 0, .int .u64 0]) ?_ 1 _ rfl; (with_reducible repeat (first | apply bN_ | apply bD_ | apply bA_)); refine blk_put (cs := #[.int .i64 0, .int .u64 0, .int .u64 0, .int .u64 0, .int .u64 0]) ?_ 0 _ rfl; (with_reducible repeat (first | apply bN_ | apply bD_ | apply bA_)); exact BK854.out) hb); have n3_ := Aside0.mk (below_step (by repeat (first | (with_reducible first | exact HB.out | apply ba_ | apply bn_ | apply bd_ | refine below_set ?_ GE830.out | refine below_set ?_ GE837.out | refine below_set ?_ GE854.out) | exact HB.out)) hb); clear BK830; clear BK837; clear BK854; clear HB; have BK830 := n0_; have BK837 := n1_; have BK854 := n2_; have HB := n3_; clear n0_ n1_ n2_ n3_; (try clear hb); (try clear hb2); (try clear hk); (try clear hi); have hcz80_0 : w79.cell? ⟨gb854, 0, none⟩ = some (.int .i64 t849) := (blk_cell BK854.out 0).trans rfl; have hcz80_1 : w79.cell? ⟨gb854, 1, none⟩ = some (.int .u64 t850) := (blk_cell BK854.out 1).trans rfl; have hcz80_2 : w79.cell? ⟨gb854, 2, none⟩ = some (.int .u64 t851) := (blk_cell BK854.out 2).trans rfl; have hcz80_3 : w79.cell? ⟨gb854, 3, none⟩ = some (.int .u64 t852) := (blk_cell BK854.out 3).trans rfl; have hcz80_4 : w79.cell? ⟨gb854, 4, none⟩ = some (.int .u64 t853) := (blk_cell BK854.out 4).trans rfl; have hfz80_0 := blk_frozen BK854.out 0; have hfz80_1 := blk_frozen BK854.out 1; have hfz80_2 := blk_frozen BK854.out 2; have hfz80_3 := blk_frozen BK854.out 3; have hfz80_4 := blk_frozen BK854.out 4) | (go_at_call 45; (with_reducible refine (rule_Total.calls kj6 t850 true _ A69.out).mono ?_); rintro e w81 ⟨rfl, hb⟩; have n0_ := Aside0.mk (blk_below (g := gb830) (o := .cells #[.int .i64 a0_0, .int .u64 a0_1, .int .u64 a0_2, .int .u64 a0_3, .int .u64 a0_4] 25 (0, 0)) (by (with_reducible repeat (first | apply bN_ | apply bD_ | apply bA_)); exact BK830.out) hb); have n1_ := Aside0.mk (blk_below (g := gb837) (o := .cells #[.int .i64 t832, .int .u64 t833, .int .u64 t834, .int .u64 t835, .int .u64 t836] 29 (0, 0)) (by (with_reducible repeat (first | apply bN_ | apply bD_ | apply bA_)); exact BK837.out) hb); have n2_ := Aside0.mk (blk_below (g := gb854) (o := .cells #[.int .i64 t849, .int .u64 t850, .int .u64 t851, .int .u64 t852, .int .u64 t853] 29 (0, 0)) (by (with_reducible repeat (first | apply bN_ | apply bD_ | apply bA_)); exact BK854.out) hb); have n3_ := Aside0.mk (below_step (by repeat (first | (with_reducible first | exact HB.out | apply ba_ | apply bn_ | apply bd_ | refine below_set ?_ GE830.out | refine below_set ?_ GE837.out | refine below_set ?_ GE854.out) | exact HB.out)) hb); clear BK830; clear BK837; clear BK854; clear HB; have BK830 := n0_; have BK837 := n1_; have BK854 := n2_; have HB := n3_; clear n0_ n1_ n2_ n3_; (try clear hb); (try clear hb2); (try clear hk); (try clear hi); have hcz82_0 : w81.cell? ⟨gb854, 0, none⟩ = some (.int .i64 t849) := (blk_cell BK854.out 0).trans rfl; have hcz82_1 : w81.cell? ⟨gb854, 1, none⟩ = some (.int .u64 t850) := (blk_cell BK854.out 1).trans rfl; have hcz82_2 : w81.cell? ⟨gb854, 2, none⟩ = some (.int .u64 t851) := (blk_cell BK854.out 2).trans rfl; have hcz82_3 : w81.cell? ⟨gb854, 3, none⟩ = some (.int .u64 t852) := (blk_cell BK854.out 3).trans rfl; have hcz82_4 : w81.cell? ⟨gb854, 4, none⟩ = some (.int .u64 t853) := (blk_cell BK854.out 4).trans rfl; have hfz82_0 := blk_frozen BK854.out 0; have hfz82_1 := blk_frozen BK854.out 1; have hfz82_2 := blk_frozen BK854.out 2; have hfz82_3 := blk_frozen BK854.out 3; have hfz82_4 := blk_frozen BK854.out 4) | (go_at_call 45; (with_reducible refine (rule_Total.calls kj6 t852 t857 _ A71.out).mono ?_); rintro e w83 ⟨rfl, hb⟩; have n0_ := Aside0.mk (blk_below (g := gb830) (o := .cells #[.int .i64 a0_0, .int .u64 a0_1, .int .u64 a0_2, .int .u64 a0_3, .int .u64 a0_4] 25 (0, 0)) (by (with_reducible repeat (first | apply bN_ | apply bD_ | apply bA_)); exact BK830.out) hb); have n1_ := Aside0.mk (blk_below (g := gb837) (o := .cells #[.int .i64 t832, .int .u64 t833, .int .u64 t834, .int .u64 t835, .int .u64 t836] 29 (0, 0)) (by (with_reducible repeat (first | apply bN_ | apply bD_ | apply bA_)); exact BK837.out) hb); have n2_ := Aside0.mk (blk_below (g := gb854) (o := .cells #[.int .i64 t849, .int .u64 t850, .int .u64 t851, .int .u64 t852, .int .u64 t853] 29 (0, 0)) (by (with_reducible repeat (first | apply bN_ | apply bD_ | apply bA_)); exact BK854.out) hb); have n3_ := Aside0.mk (below_step (by repeat (first | (with_reducible first | exact HB.out | apply ba_ | apply bn_ | apply bd_ | refine below_set ?_ GE830.out | refine below_set ?_ GE837.out | refine below_set ?_ GE854.out) | exact HB.out)) hb); clear BK830; clear BK837; clear BK854; clear HB; have BK830 := n0_; have BK837 := n1_; have BK854 := n2_; have HB := n3_; clear n0_ n1_ n2_ n3_; (try clear hb); (try clear hb2); (try clear hk); (try clear hi)))
        go_ret
        exact ⟨by first | rfl | (simp [errW_none, errW_some] <;> rfl) | (simp [*, errW_none, errW_some] <;> rfl), by repeat (first | (with_reducible first | exact HB.out | apply ba_ | apply bn_ | apply bd_ | refine below_set ?_ GE830.out | refine below_set ?_ GE837.out | refine below_set ?_ GE854.out) | exact HB.out)⟩
       ·
        replace c70 := Bool.eq_false_iff.mpr c70
        subst c70
        have H1 : (some false) = some r := by rw [if_neg (show ¬ (false = true) by decide)] at H; exact H
        clear H
        have H := H1
        clear H1
        exact absurd ((Option.some.inj H).trans Hr_.out) (by decide)
      ·
       rw [if_neg c68] at H
       have c68b0 : (t849 == 1) = false := beq_eq_false_iff_ne.mpr c68
       have c68b1 : (t849 != 1) = true := bne_iff_ne.mpr c68
       obtain rfl := Option.some.inj H
       have hnb94 := NB837_830.out
       have hnc94 := NB830_837.out
       have hcz95_0 : wc.cell? ⟨gb837, 0, none⟩ = some (.int .i64 t832) := (blk_cell BK837.out 0).trans rfl
       have hcz95_1 : wc.cell? ⟨gb837, 1, none⟩ = some (.int .u64 t833) := (blk_cell BK837.out 1).trans rfl
       have hcz95_2 : wc.cell? ⟨gb837, 2, none⟩ = some (.int .u64 t834) := (blk_cell BK837.out 2).trans rfl
       have hcz95_3 : wc.cell? ⟨gb837, 3, none⟩ = some (.int .u64 t835) := (blk_cell BK837.out 3).trans rfl
       have hcz95_4 : wc.cell? ⟨gb837, 4, none⟩ = some (.int .u64 t836) := (blk_cell BK837.out 4).trans rfl
       have hfz95_0 := blk_frozen BK837.out 0
       have hfz95_1 := blk_frozen BK837.out 1
       have hfz95_2 := blk_frozen BK837.out 2
       have hfz95_3 := blk_frozen BK837.out 3
       have hfz95_4 := blk_frozen BK837.out 4
       go_wp2_with (first | ((with_reducible refine gate_callee (f := 39) rfl ?_); refine goesL_ (some 50) rfl rfl Tryd.func39 (by kernel_rfl) rfl #[.agg #[.int .i64 t832, .int .u64 t833, .int .u64 t834, .int .u64 t835, .int .u64 t836]] rfl (by (try simp only [List.map_toArray, List.map_cons, List.map_nil]); first | done | rfl | (simp only [List.length_drop, List.length_take]; rfl)) ?_; (with_reducible refine (honeycomblaw07_whole.calls kj6 t832 t833 t834 t835 t836 t849 t850 t851 t852 t853 _ A65.out).mono ?_); rintro e w96 ⟨rfl, hb⟩; refine ⟨_, rfl, ?_⟩; have n0_ := Aside0.mk (blk_below (g := gb830) (o := .cells #[.int .i64 a0_0, .int .u64 a0_1, .int .u64 a0_2, .int .u64 a0_3, .int .u64 a0_4] 25 (0, 0)) (by (with_reducible repeat (first | apply bN_ | apply bD_ | apply bA_)); exact BK830.out) hb); have n1_ := Aside0.mk (blk_below (g := gb837) (o := .cells #[.int .i64 t832, .int .u64 t833, .int .u64 t834, .int .u64 t835, .int .u64 t836] 29 (0, 0)) (by (with_reducible repeat (first | apply bN_ | apply bD_ | apply bA_)); exact BK837.out) hb); have n2_ := Aside0.mk (below_step (by repeat (first | (with_reducible first | exact HB.out | apply ba_ | apply bn_ | apply bd_ | refine below_set ?_ GE830.out | refine below_set ?_ GE837.out) | exact HB.out)) hb); clear BK830; clear BK837; clear HB; have BK830 := n0_; have BK837 := n1_; have HB := n2_; clear n0_ n1_ n2_; (try clear hb); (try clear hb2); (try clear hk); (try clear hi)) | ((with_reducible refine gate_dst (N := 10) rfl ?_); refine box_event ?hg (N := 10) ?hd (cs := #[.int .i64 0, .int .u64 0, .int .u64 0, .int .u64 0, .int .u64 0]) (t := 29) ?hr ?_; (case hd => rfl); (case hg => rfl); (case hr => first | (go_simp; done) | (go_simp; rfl)); intro gb854 hg w97 hbox hb; have n0_ := Aside0.mk (blk_below (g := gb830) (o := .cells #[.int .i64 a0_0, .int .u64 a0_1, .int .u64 a0_2, .int .u64 a0_3, .int .u64 a0_4] 25 (0, 0)) (by (with_reducible repeat (first | apply bN_ | apply bD_ | apply bA_)); exact BK830.out) hb); have n1_ := Aside0.mk (blk_below (g := gb837) (o := .cells #[.int .i64 t832, .int .u64 t833, .int .u64 t834, .int .u64 t835, .int .u64 t836] 29 (0, 0)) (by (with_reducible repeat (first | apply bN_ | apply bD_ | apply bA_)); exact BK837.out) hb); have n2_ := Aside0.mk (below_step (by repeat (first | (with_reducible first | exact HB.out | apply ba_ | apply bn_ | apply bd_ | refine below_set ?_ GE830.out | refine below_set ?_ GE837.out) | exact HB.out)) hb); have n3_ := Aside0.mk (hbox); have n4_ := Aside0.mk ((by rw [hg]; exact (below_size (by repeat (first | (with_reducible first | exact HB.out | apply ba_ | apply bn_ | apply bd_ | refine below_set ?_ GE830.out | refine below_set ?_ GE837.out) | exact HB.out))) : w.heap.size ≤ gb854)); have n5_ := Aside0.mk ((by rw [hg]; exact (below_size (by repeat (first | (with_reducible first | exact HB.out | apply ba_ | apply bn_ | apply bd_ | refine below_set ?_ GE830.out | refine below_set ?_ GE837.out) | exact HB.out))) : w.heap.size ≤ gb854)); have n6_ := Aside0.mk ((by rw [hg]; exact Nat.ne_of_lt (blk_lt (g := gb830) (o := .cells #[.int .i64 a0_0, .int .u64 a0_1, .int .u64 a0_2, .int .u64 a0_3, .int .u64 a0_4] 25 (0, 0)) (by (with_reducible repeat (first | apply bN_ | apply bD_ | apply bA_)); exact BK830.out)) : gb830 ≠ gb854)); have n7_ := Aside0.mk ((by rw [hg]; exact Nat.ne_of_gt (blk_lt (g := gb830) (o := .cells #[.int .i64 a0_0, .int .u64 a0_1, .int .u64 a0_2, .int .u64 a0_3, .int .u64 a0_4] 25 (0, 0)) (by (with_reducible repeat (first | apply bN_ | apply bD_ | apply bA_)); exact BK830.out)) : gb854 ≠ gb830)); have n8_ := Aside0.mk ((by rw [hg]; exact Nat.ne_of_lt (blk_lt (g := gb837) (o := .cells #[.int .i64 t832, .int .u64 t833, .int .u64 t834, .int .u64 t835, .int .u64 t836] 29 (0, 0)) (by (with_reducible repeat (first | apply bN_ | apply bD_ | apply bA_)); exact BK837.out)) : gb837 ≠ gb854)); have n9_ := Aside0.mk ((by rw [hg]; exact Nat.ne_of_gt (blk_lt (g := gb837) (o := .cells #[.int .i64 t832, .int .u64 t833, .int .u64 t834, .int .u64 t835, .int .u64 t836] 29 (0, 0)) (by (with_reducible repeat (first | apply bN_ | apply bD_ | apply bA_)); exact BK837.out)) : gb854 ≠ gb837)); clear BK830; clear BK837; clear HB; have BK830 := n0_; have BK837 := n1_; have HB := n2_; have BK854 := n3_; have GW854 := n4_; have GE854 := n5_; have NB830_854 := n6_; have NB854_830 := n7_; have NB837_854 := n8_; have NB854_837 := n9_; clear n0_ n1_ n2_ n3_ n4_ n5_ n6_ n7_ n8_ n9_; clear hb hbox hg; have hnb98 := NB854_830.out; have hnc98 := NB830_854.out; have hnb99 := NB854_837.out; have hnc99 := NB837_854.out; have hcz100_0 : w97.cell? ⟨gb854, 0, none⟩ = some (.int .i64 0) := (blk_cell BK854.out 0).trans rfl; have hcz100_1 : w97.cell? ⟨gb854, 1, none⟩ = some (.int .u64 0) := (blk_cell BK854.out 1).trans rfl; have hcz100_2 : w97.cell? ⟨gb854, 2, none⟩ = some (.int .u64 0) := (blk_cell BK854.out 2).trans rfl; have hcz100_3 : w97.cell? ⟨gb854, 3, none⟩ = some (.int .u64 0) := (blk_cell BK854.out 3).trans rfl; have hcz100_4 : w97.cell? ⟨gb854, 4, none⟩ = some (.int .u64 0) := (blk_cell BK854.out 4).trans rfl; have hfz100_0 := blk_frozen BK854.out 0; have hfz100_1 := blk_frozen BK854.out 1; have hfz100_2 := blk_frozen BK854.out 2; have hfz100_3 := blk_frozen BK854.out 3; have hfz100_4 := blk_frozen BK854.out 4) | ((with_reducible refine gate_callee (f := 18) rfl ?_); refine goesL_ (some 53) rfl rfl Tryd.func18 (by kernel_rfl) rfl #[.agg #[.int .i64 t849, .int .u64 t850, .int .u64 t851, .int .u64 t852, .int .u64 t853], .int .i64 (Int.tmod (Go.bits .and .i64 a1 255) 12)] rfl (by (try simp only [List.map_toArray, List.map_cons, List.map_nil]); first | done | rfl | (simp only [List.length_drop, List.length_take]; rfl)) ?_; (with_reducible refine (iso_Keeps.calls kj6 t849 t850 t851 t852 t853 (Int.tmod (Go.bits .and .i64 a1 255) 12) true _ ?side1 A66.out).mono ?_); (case side1 => exact HGSix.out.below (by repeat (first | (with_reducible first | exact HB.out | apply ba_ | apply bn_ | apply bd_ | refine below_set ?_ GE830.out | refine below_set ?_ GE837.out | refine below_set ?_ GE854.out) | exact HB.out))); rintro e w101 ⟨rfl, hb⟩; refine ⟨_, rfl, ?_⟩; have n0_ := Aside0.mk (blk_below (g := gb830) (o := .cells #[.int .i64 a0_0, .int .u64 a0_1, .int .u64 a0_2, .int .u64 a0_3, .int .u64 a0_4] 25 (0, 0)) (by (with_reducible repeat (first | apply bN_ | apply bD_ | apply bA_)); refine blk_far ?_ NB830_854.out _; (with_reducible repeat (first | apply bN_ | apply bD_ | apply bA_)); refine blk_far ?_ NB830_854.out _; (with_reducible repeat (first | apply bN_ | apply bD_ | apply bA_)); refine blk_far ?_ NB830_854.out _; (with_reducible repeat (first | apply bN_ | apply bD_ | apply bA_)); refine blk_far ?_ NB830_854.out _; (with_reducible repeat (first | apply bN_ | apply bD_ | apply bA_)); refine blk_far ?_ NB830_854.out _; (with_reducible repeat (first | apply bN_ | apply bD_ | apply bA_)); exact BK830.out) hb); have n1_ := Aside0.mk (blk_below (g := gb837) (o := .cells #[.int .i64 t832, .int .u64 t833, .int .u64 t834, .int .u64 t835, .int .u64 t836] 29 (0, 0)) (by (with_reducible repeat (first | apply bN_ | apply bD_ | apply bA_)); refine blk_far ?_ NB837_854.out _; (with_reducible repeat (first | apply bN_ | apply bD_ | apply bA_)); refine blk_far ?_ NB837_854.out _; (with_reducible repeat (first | apply bN_ | apply bD_ | apply bA_)); refine blk_far ?_ NB837_854.out _; (with_reducible repeat (first | apply bN_ | apply bD_ | apply bA_)); refine blk_far ?_ NB837_854.out _; (with_reducible repeat (first | apply bN_ | apply bD_ | apply bA_)); refine blk_far ?_ NB837_854.out _; (with_reducible repeat (first | apply bN_ | apply bD_ | apply bA_)); exact BK837.out) hb); have n2_ := Aside0.mk (blk_below (g := gb854) (o := .cells #[.int .i64 t849, .int .u64 t850, .int .u64 t851, .int .u64 t852, .int .u64 t853] 29 (0, 0)) (by (with_reducible repeat (first | apply bN_ | apply bD_ | apply bA_)); refine blk_put (cs := #[.int .i64 t849, .int .u64 t850, .int .u64 t851, .int .u64 t852, .int .u64 0]) ?_ 4 _ rfl; (with_reducible repeat (first | apply bN_ | apply bD_ | apply bA_)); refine blk_put (cs := #[.int .i64 t849, .int .u64 t850, .int .u64 t851, .int .u64 0, .int .u64 0]) ?_ 3 _ rfl; (with_reducible repeat (first | apply bN_ | apply bD_ | apply bA_)); refine blk_put (cs := #[.int .i64 t849, .int .u64 t850, .int .u64 0, .int .u64 0, .int .u64 0]) ?_ 2 _ rfl; (with_reducible repeat (first | apply bN_ | apply bD_ | apply bA_)); refine blk_put (cs := #[.int .i64 t849, .int .u64 0, .int .u64 0, .int .u64 0, .int .u64 0]) ?_ 1 _ rfl; (with_reducible repeat (first | apply bN_ | apply bD_ | apply bA_)); refine blk_put (cs := #[.int .i64 0, .int .u64 0, .int .u64 0, .int .u64 0, .int .u64 0]) ?_ 0 _ rfl; (with_reducible repeat (first | apply bN_ | apply bD_ | apply bA_)); exact BK854.out) hb); have n3_ := Aside0.mk (below_step (by repeat (first | (with_reducible first | exact HB.out | apply ba_ | apply bn_ | apply bd_ | refine below_set ?_ GE830.out | refine below_set ?_ GE837.out | refine below_set ?_ GE854.out) | exact HB.out)) hb); clear BK830; clear BK837; clear BK854; clear HB; have BK830 := n0_; have BK837 := n1_; have BK854 := n2_; have HB := n3_; clear n0_ n1_ n2_ n3_; (try clear hb); (try clear hb2); (try clear hk); (try clear hi); have hcz102_0 : w101.cell? ⟨gb854, 0, none⟩ = some (.int .i64 t849) := (blk_cell BK854.out 0).trans rfl; have hcz102_1 : w101.cell? ⟨gb854, 1, none⟩ = some (.int .u64 t850) := (blk_cell BK854.out 1).trans rfl; have hcz102_2 : w101.cell? ⟨gb854, 2, none⟩ = some (.int .u64 t851) := (blk_cell BK854.out 2).trans rfl; have hcz102_3 : w101.cell? ⟨gb854, 3, none⟩ = some (.int .u64 t852) := (blk_cell BK854.out 3).trans rfl; have hcz102_4 : w101.cell? ⟨gb854, 4, none⟩ = some (.int .u64 t853) := (blk_cell BK854.out 4).trans rfl; have hfz102_0 := blk_frozen BK854.out 0; have hfz102_1 := blk_frozen BK854.out 1; have hfz102_2 := blk_frozen BK854.out 2; have hfz102_3 := blk_frozen BK854.out 3; have hfz102_4 := blk_frozen BK854.out 4))
       go_ret
       exact ⟨by first | rfl | (simp [errW_none, errW_some] <;> rfl) | (simp [*, errW_none, errW_some] <;> rfl), by repeat (first | (with_reducible first | exact HB.out | apply ba_ | apply bn_ | apply bd_ | refine below_set ?_ GE830.out | refine below_set ?_ GE837.out | refine below_set ?_ GE854.out) | exact HB.out)⟩
     ·
      replace c67 := Bool.eq_false_iff.mpr c67
      subst c67
      have H1 : (some false) = some r := by rw [if_neg (show ¬ (false = true) by decide)] at H; exact H
      clear H
      have H := H1
      clear H1
      exact absurd ((Option.some.inj H).trans Hr_.out) (by decide)
 ·
  replace c5 := Bool.eq_false_iff.mpr c5
  subst c5
  have H1 : (some false) = some r := by rw [if_neg (show ¬ (false = true) by decide)] at H; exact H
  clear H
  have H := H1
  clear H1
  exact absurd ((Option.some.inj H).trans Hr_.out) (by decide)
end Go.Proofs.YtaeenefdbahfoaaDoor.H
