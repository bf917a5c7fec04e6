/- Parts of the proof of IsoWitness, merged out of our texts by wip/tools/pack.py. -/
import Derived.Test.YtaeenefdbahfoaaDoorKIsoWitness1
import Derived.Laws.RangeString
import Derived.Test.YtaeenefdbahfoaaDoorKIsoWitness2
import Derived.Shelf.SlGeneric
import Derived.Shelf.SlSortCmp.NoneTotal
import Derived.Test.YtaeenefdbahfoaaDoorProg
import Derived.Lib.SlicesCompact
namespace Go.Proofs.YtaeenefdbahfoaaDoor
set_option linter.unusedSimpArgs false
set_option linter.unusedVariables false
set_option maxRecDepth 100000
set_option maxHeartbeats 16000000
open Go.RowKit Go.Proofs.YtaeenefdbahfoaaDoorW.PrintWords Go.Proofs.YtaeenefdbahfoaaDoorW.PrintLast Go.Proofs.YtaeenefdbahfoaaDoorW.PrintMore
open H
def ompS : ByteArray := ⟨#[111, 109, 112]⟩
def ompC : Nat → Int
 | 0 => 111 | 1 => 109 | _ => 112
def setB (W : World) (g : Nat) (o : Obj) : World := { W with heap := W.heap.setIfInBounds g o }
theorem omp_next (W : World) (g pos : Nat) (ty : TypeId) (hp : pos < 3) (h : W.heap[g]? = some (.stringIter ompS pos)) :
    (Instr.next (.pointer (some ⟨g, 0, none⟩)) true ty).run Tryd.prog W = .ok (.tuple #[.bool true, .int .i64 pos, .int .i32 (ompC pos)]) (setB W g (.stringIter ompS (pos + 1))) := by
 have hd : Utf8.decode ompS pos = ((ompC pos).toNat, 1) := by
  have : pos = 0 ∨ pos = 1 ∨ pos = 2 := by omega
  rcases this with rfl | rfl | rfl <;> decide +kernel
 have hs : pos < ompS.size := hp
 have hc : (((ompC pos).toNat : Nat) : Int) = ompC pos := by
  unfold ompC
  split <;> rfl
 simp [Instr.next, getObj, setObj, Sem.run_bind, Sem.run, h, Result.andThen, hs, hd, goInt, hc, setB]
theorem omp_end (W : World) (g : Nat) (ty : TypeId) (h : W.heap[g]? = some (.stringIter ompS 3)) :
    (Instr.next (.pointer (some ⟨g, 0, none⟩)) true ty).run Tryd.prog W = .ok (.tuple #[.bool false]) W := by
 have hs : ¬ 3 < ompS.size := by decide
 simp [Instr.next, getObj, Sem.run, h, hs]
theorem omp_range (W : World) : (Instr.range 9 (.string ⟨#[111, 109, 112]⟩)).run Tryd.prog W = .ok (.pointer (some ⟨W.heap.size, 0, none⟩)) (W.alloc (.stringIter ompS 0)) := by
 have := run_range_string (P := Tryd.prog) W 9 ompS Tryd.underlying9
 exact this
theorem setB_same {W : World} {g : Nat} {o o' : Obj} (h : W.heap[g]? = some o) : (setB W g o').heap[g]? = some o' := by
 have := (Array.getElem?_eq_some_iff.1 h).1
 simp [setB, this]
theorem setB_below {B : Nat} {a W : World} {g : Nat} {o : Obj} (h : Below B a W) (hg : B ≤ g) : Below B a (setB W g o) := by
 obtain ⟨h1, h2, h3, h4, h5⟩ := h
 refine ⟨h1, h2, h3, by simpa [setB] using h4, fun k hk => ?_⟩
 rw [← h5 k hk]
 show (W.heap.setIfInBounds g o)[k]? = _
 rw [Array.getElem?_setIfInBounds_ne (by omega)]
theorem setB_R {W : World} {g base : Nat} {o : Obj} {v : Value} {xs : List S104} (h : Kd.R k104 104 W base (fun k => k ≠ g) v xs) : Kd.R k104 104 (setB W g o) base (fun k => k ≠ g) v xs :=
 Kd.R_move h fun k hk => by
  show (W.heap.setIfInBounds g o)[k]? = _
  rw [Array.getElem?_setIfInBounds_ne (by omega)]
theorem infoCl : (Tryd.prog.info? 104).map (fun i => (i.zero, i.size, i.bytes)) = some (some (.agg #[.int .i64 0, .int .u8 0]), 2, 16) := by kernel_rfl
theorem iterPos_of {W : World} {g : Nat} {s : ByteArray} {p : Nat} (h : W.heap[g]? = some (.stringIter s p)) : W.iterPos g = p := by
 unfold World.iterPos
 rw [h]
def ompL (n : Int) : List S104 := [⟨n, 111⟩, ⟨n, 109⟩, ⟨n, 112⟩]
def clsL : Nat → List S104
 | 0 => []
 | 1 => [⟨0, 0⟩]
 | 2 => [⟨0, 0⟩, ⟨1, 0⟩]
 | 3 => [⟨0, 0⟩, ⟨1, 0⟩] ++ ompL 2
 | 4 => [⟨0, 0⟩, ⟨1, 0⟩] ++ ompL 2 ++ ompL 3
 | 5 => [⟨0, 0⟩, ⟨1, 0⟩] ++ ompL 2 ++ ompL 3 ++ ompL 4
 | 6 => [⟨0, 0⟩, ⟨1, 0⟩] ++ ompL 2 ++ ompL 3 ++ ompL 4 ++ [⟨5, 0⟩]
 | _ => [⟨0, 0⟩, ⟨1, 0⟩] ++ ompL 2 ++ ompL 3 ++ ompL 4 ++ [⟨5, 0⟩] ++ [⟨6, 0⟩]
theorem clsL_le (n : Nat) : (clsL n).length ≤ 20 := by
 unfold clsL ompL
 split <;> simp
theorem classes_any (w : World) : Calls Tryd.prog 78 #[] w fun e w' => ∃ v, e = .returned v ∧ Kd.R k104 104 w' w.heap.size (fun _ => True) v (clsL 7) ∧ Below w.heap.size w w' := by
 have hrg := omp_range
 have h0 : clsL 0 = [] := rfl
 have H0 := Aside0.mk h0
 clear h0
 go_enter Tryd.func78, Tryd.ntmps78
 go_wp2_with fail
 go_loopw [5, 1] (fun i v wr => ∃ n : Nat, n ≤ 7 ∧ i = .int .i64 n ∧ Kd.R k104 104 wr w.heap.size (fun _ => True) v (clsL n) ∧ Below w.heap.size w wr) (fun i _ _ => 7 - (intOf i).toNat)
 case atStart => exact ⟨0, by omega, rfl, Kd.R_nil _ _ _ _ _, Below.refl _ _⟩
 case round =>
  obtain ⟨n, hn, rfl, hO, hb⟩ := hrel
  have HO := Aside0.mk hO
  have HB := Aside0.mk hb
  have hzr := hb.size
  clear hO hb
  have hnn : n = 0 ∨ n = 1 ∨ n = 2 ∨ n = 3 ∨ n = 4 ∨ n = 5 ∨ n = 6 ∨ n = 7 := by omega
  rcases hnn with rfl | rfl | rfl | rfl | rfl | rfl | rfl | rfl
  ·have hcl : clsL 1 = clsL 0 ++ [⟨0, 0⟩] := rfl
   have HCL := Aside0.mk hcl
   have hle := clsL_le 0
   clear hcl
   go_wp2_with (at_builtin; refine Kd.R_append k104 (w0 := w) w.heap.size rfl (.tmp 14) (.tmp 17) 127 104 (.agg #[.int .i64 0, .int .u8 0]) 16 rfl Tryd.underlying127 infoCl rfl (by decide) (by decide) _ (clsL 0) (⟨0, 0⟩) [.int .i64 0, .int .u8 0] (fun _ => True) (fun _ => False) rfl (by first | (simp; done) | rfl) (k104_mkM _ _ _ _) (fun _ h => h.elim) (fun _ _ => trivial) HO.out HB.out hzr (by omega) ?_; intro v1 w1 ho1 hb1 hg1 _; have HO1 := Aside0.mk ho1; have HB1 := Aside0.mk hb1; have HG1 := Aside0.mk hg1; clear ho1 hb1 hg1)
   go_roundw
   case rel => exact ⟨1, by omega, by first | rfl | go_num, by rw [HCL.out]; exact HO1.out, HB1.out⟩
   case measure => simp [intOf]
  ·have hcl : clsL 2 = clsL 1 ++ [⟨1, 0⟩] := rfl
   have HCL := Aside0.mk hcl
   have hle := clsL_le 1
   clear hcl
   go_wp2_with (at_builtin; refine Kd.R_append k104 (w0 := w) w.heap.size rfl (.tmp 14) (.tmp 17) 127 104 (.agg #[.int .i64 0, .int .u8 0]) 16 rfl Tryd.underlying127 infoCl rfl (by decide) (by decide) _ (clsL 1) (⟨1, 0⟩) [.int .i64 1, .int .u8 0] (fun _ => True) (fun _ => False) rfl (by first | (simp; done) | rfl) (k104_mkM _ _ _ _) (fun _ h => h.elim) (fun _ _ => trivial) HO.out HB.out hzr (by omega) ?_; intro v1 w1 ho1 hb1 hg1 _; have HO1 := Aside0.mk ho1; have HB1 := Aside0.mk hb1; have HG1 := Aside0.mk hg1; clear ho1 hb1 hg1)
   go_roundw
   case rel => exact ⟨2, by omega, by first | rfl | go_num, by rw [HCL.out]; exact HO1.out, HB1.out⟩
   case measure => simp [intOf]
  ·have hcl : clsL 3 = clsL 2 ++ ompL 2 := rfl
   have HCL := Aside0.mk hcl
   have hle := clsL_le 2
   clear hcl
   go_wp2_with fail
   obtain ⟨wI, hwI⟩ : ∃ W, W = wr.alloc (.stringIter ompS 0) := ⟨_, rfl⟩
   have hi0 : wI.heap[wr.heap.size]? = some (.stringIter ompS 0) := by rw [hwI]; exact blk_new _ _
   have hBI : Below wr.heap.size wr wI := by rw [hwI]; exact below_alloc (Below.refl _ _) _
   have hOI : Kd.R k104 104 wI w.heap.size (fun k => k ≠ wr.heap.size) _ (clsL 2) := Kd.R_mono (Kd.R_below (Kd.R_bound HO.out) hBI) (fun k hk => by have := hk.2.2.1; omega)
   rw [← hwI]
   obtain ⟨g, hg⟩ : ∃ g, g = wr.heap.size := ⟨_, rfl⟩
   rw [← hg] at hi0 hOI ⊢
   have hgw : w.heap.size ≤ g := by omega
   have HBI := Aside0.mk (HB.out.trans (hBI.mono hzr))
   clear hwI hBI hg HO HB
   try rw [show ((2 : Nat) : Int) = 2 from rfl]
   go_loopw [1] (fun v wr => ∃ pos : Nat, pos ≤ 3 ∧ Kd.R k104 104 wr w.heap.size (fun k => k ≠ g) v (clsL 2 ++ (ompL 2).take pos) ∧ wr.heap[g]? = some (.stringIter ompS pos) ∧ Below w.heap.size w wr) (fun _ wr => 3 - wr.iterPos g)
   case atStart => exact ⟨0, by omega, by simpa using hOI, hi0, HBI.out⟩
   case round =>
    obtain ⟨pos, hpos, hO, hi, hb⟩ := hrel
    have HO := Aside0.mk hO
    have HI := Aside0.mk hi
    have HB := Aside0.mk hb
    clear hO hi hb hOI hi0 HBI
    have hpp : pos = 0 ∨ pos = 1 ∨ pos = 2 ∨ pos = 3 := by omega
    rcases hpp with rfl | rfl | rfl | rfl
    ·have hnx := fun ty => omp_next wr g 0 ty (by omega) HI.out
     have hlt := blk_lt HI.out
     obtain ⟨w2, hw2⟩ : ∃ W, W = setB wr g (.stringIter ompS (0 + 1)) := ⟨_, rfl⟩
     rw [← hw2] at hnx
     have hI2 : w2.heap[g]? = some (.stringIter ompS 1) := by rw [hw2]; exact setB_same HI.out
     have hO2 := setB_R (o := .stringIter ompS (0 + 1)) HO.out
     rw [← hw2] at hO2
     have hB2 : Below w.heap.size w w2 := by rw [hw2]; exact setB_below HB.out hgw
     have hl2 : g < w2.heap.size := blk_lt hI2
     have HI2 := Aside0.mk hI2
     have HO2 := Aside0.mk hO2
     have HB2 := Aside0.mk hB2
     have hoc : ompC 0 = 111 := rfl
     rw [hoc] at hnx
     have hwr8 : IntKind.u8.wrap 111 = 111 := by decide
     clear hw2 hI2 hO2 hB2 hoc
     go_wp2_with (at_builtin; refine Kd.R_append k104 (w0 := w) w.heap.size rfl (.tmp 23) (.tmp 28) 127 104 (.agg #[.int .i64 0, .int .u8 0]) 16 rfl Tryd.underlying127 infoCl rfl (by decide) (by decide) _ (clsL 2 ++ (ompL 2).take 0) (⟨2, 111⟩) [.int .i64 2, .int .u8 111] (fun k => k ≠ g) (fun _ => False) rfl (by first | (simp; done) | rfl) (k104_mkM _ _ _ _) (fun _ h => h.elim) (fun k hk => by show k ≠ g; omega) HO2.out HB2.out HB2.out.size (by simp [ompL]; omega) ?_; intro v1 w1 ho1 hb1 hg1 _; have HO1 := Aside0.mk ho1; have HB1 := Aside0.mk hb1; have HG1 := Aside0.mk hg1; clear ho1 hb1 hg1)
     clear hnx
     have hz1 : w2.heap.size ≤ w1.heap.size := HG1.out.size
     go_roundw
     case rel => exact ⟨1, by omega, by simpa only [ompL, List.take_succ_cons, List.take_zero, List.append_assoc, List.cons_append, List.nil_append, List.append_nil] using HO1.out, (HG1.out.block g hl2 (Kd.R_away HO2.out (fun _ h => h))).trans HI2.out, HB1.out⟩
     case measure =>
      have hp1 := iterPos_of ((HG1.out.block g hl2 (Kd.R_away HO2.out (fun _ h => h))).trans HI2.out)
      have hp0 := iterPos_of HI.out
      simp only [hp1, hp0]
      omega
    ·have hnx := fun ty => omp_next wr g 1 ty (by omega) HI.out
     have hlt := blk_lt HI.out
     obtain ⟨w2, hw2⟩ : ∃ W, W = setB wr g (.stringIter ompS (1 + 1)) := ⟨_, rfl⟩
     rw [← hw2] at hnx
     have hI2 : w2.heap[g]? = some (.stringIter ompS 2) := by rw [hw2]; exact setB_same HI.out
     have hO2 := setB_R (o := .stringIter ompS (1 + 1)) HO.out
     rw [← hw2] at hO2
     have hB2 : Below w.heap.size w w2 := by rw [hw2]; exact setB_below HB.out hgw
     have hl2 : g < w2.heap.size := blk_lt hI2
     have HI2 := Aside0.mk hI2
     have HO2 := Aside0.mk hO2
     have HB2 := Aside0.mk hB2
     have hoc : ompC 1 = 109 := rfl
     rw [hoc] at hnx
     have hwr8 : IntKind.u8.wrap 109 = 109 := by decide
     clear hw2 hI2 hO2 hB2 hoc
     go_wp2_with (at_builtin; refine Kd.R_append k104 (w0 := w) w.heap.size rfl (.tmp 23) (.tmp 28) 127 104 (.agg #[.int .i64 0, .int .u8 0]) 16 rfl Tryd.underlying127 infoCl rfl (by decide) (by decide) _ (clsL 2 ++ (ompL 2).take 1) (⟨2, 109⟩) [.int .i64 2, .int .u8 109] (fun k => k ≠ g) (fun _ => False) rfl (by first | (simp; done) | rfl) (k104_mkM _ _ _ _) (fun _ h => h.elim) (fun k hk => by show k ≠ g; omega) HO2.out HB2.out HB2.out.size (by simp [ompL]; omega) ?_; intro v1 w1 ho1 hb1 hg1 _; have HO1 := Aside0.mk ho1; have HB1 := Aside0.mk hb1; have HG1 := Aside0.mk hg1; clear ho1 hb1 hg1)
     clear hnx
     have hz1 : w2.heap.size ≤ w1.heap.size := HG1.out.size
     go_roundw
     case rel => exact ⟨2, by omega, by simpa only [ompL, List.take_succ_cons, List.take_zero, List.append_assoc, List.cons_append, List.nil_append, List.append_nil] using HO1.out, (HG1.out.block g hl2 (Kd.R_away HO2.out (fun _ h => h))).trans HI2.out, HB1.out⟩
     case measure =>
      have hp1 := iterPos_of ((HG1.out.block g hl2 (Kd.R_away HO2.out (fun _ h => h))).trans HI2.out)
      have hp0 := iterPos_of HI.out
      simp only [hp1, hp0]
      omega
    ·have hnx := fun ty => omp_next wr g 2 ty (by omega) HI.out
     have hlt := blk_lt HI.out
     obtain ⟨w2, hw2⟩ : ∃ W, W = setB wr g (.stringIter ompS (2 + 1)) := ⟨_, rfl⟩
     rw [← hw2] at hnx
     have hI2 : w2.heap[g]? = some (.stringIter ompS 3) := by rw [hw2]; exact setB_same HI.out
     have hO2 := setB_R (o := .stringIter ompS (2 + 1)) HO.out
     rw [← hw2] at hO2
     have hB2 : Below w.heap.size w w2 := by rw [hw2]; exact setB_below HB.out hgw
     have hl2 : g < w2.heap.size := blk_lt hI2
     have HI2 := Aside0.mk hI2
     have HO2 := Aside0.mk hO2
     have HB2 := Aside0.mk hB2
     have hoc : ompC 2 = 112 := rfl
     rw [hoc] at hnx
     have hwr8 : IntKind.u8.wrap 112 = 112 := by decide
     clear hw2 hI2 hO2 hB2 hoc
     go_wp2_with (at_builtin; refine Kd.R_append k104 (w0 := w) w.heap.size rfl (.tmp 23) (.tmp 28) 127 104 (.agg #[.int .i64 0, .int .u8 0]) 16 rfl Tryd.underlying127 infoCl rfl (by decide) (by decide) _ (clsL 2 ++ (ompL 2).take 2) (⟨2, 112⟩) [.int .i64 2, .int .u8 112] (fun k => k ≠ g) (fun _ => False) rfl (by first | (simp; done) | rfl) (k104_mkM _ _ _ _) (fun _ h => h.elim) (fun k hk => by show k ≠ g; omega) HO2.out HB2.out HB2.out.size (by simp [ompL]; omega) ?_; intro v1 w1 ho1 hb1 hg1 _; have HO1 := Aside0.mk ho1; have HB1 := Aside0.mk hb1; have HG1 := Aside0.mk hg1; clear ho1 hb1 hg1)
     clear hnx
     have hz1 : w2.heap.size ≤ w1.heap.size := HG1.out.size
     go_roundw
     case rel => exact ⟨3, by omega, by simpa only [ompL, List.take_succ_cons, List.take_zero, List.append_assoc, List.cons_append, List.nil_append, List.append_nil] using HO1.out, (HG1.out.block g hl2 (Kd.R_away HO2.out (fun _ h => h))).trans HI2.out, HB1.out⟩
     case measure =>
      have hp1 := iterPos_of ((HG1.out.block g hl2 (Kd.R_away HO2.out (fun _ h => h))).trans HI2.out)
      have hp0 := iterPos_of HI.out
      simp only [hp1, hp0]
      omega
    ·have hnx := fun ty => omp_end wr g ty HI.out
     go_wp2
     go_roundw
     case rel => exact ⟨3, by omega, by first | rfl | go_num, by rw [HCL.out]; exact Kd.R_mono HO.out (fun _ _ => trivial), HB.out⟩
     case measure => simp [intOf]
  ·have hcl : clsL 4 = clsL 3 ++ ompL 3 := rfl
   have HCL := Aside0.mk hcl
   have hle := clsL_le 3
   clear hcl
   go_wp2_with fail
   obtain ⟨wI, hwI⟩ : ∃ W, W = wr.alloc (.stringIter ompS 0) := ⟨_, rfl⟩
   have hi0 : wI.heap[wr.heap.size]? = some (.stringIter ompS 0) := by rw [hwI]; exact blk_new _ _
   have hBI : Below wr.heap.size wr wI := by rw [hwI]; exact below_alloc (Below.refl _ _) _
   have hOI : Kd.R k104 104 wI w.heap.size (fun k => k ≠ wr.heap.size) _ (clsL 3) := Kd.R_mono (Kd.R_below (Kd.R_bound HO.out) hBI) (fun k hk => by have := hk.2.2.1; omega)
   rw [← hwI]
   obtain ⟨g, hg⟩ : ∃ g, g = wr.heap.size := ⟨_, rfl⟩
   rw [← hg] at hi0 hOI ⊢
   have hgw : w.heap.size ≤ g := by omega
   have HBI := Aside0.mk (HB.out.trans (hBI.mono hzr))
   clear hwI hBI hg HO HB
   try rw [show ((3 : Nat) : Int) = 3 from rfl]
   go_loopw [1] (fun v wr => ∃ pos : Nat, pos ≤ 3 ∧ Kd.R k104 104 wr w.heap.size (fun k => k ≠ g) v (clsL 3 ++ (ompL 3).take pos) ∧ wr.heap[g]? = some (.stringIter ompS pos) ∧ Below w.heap.size w wr) (fun _ wr => 3 - wr.iterPos g)
   case atStart => exact ⟨0, by omega, by simpa using hOI, hi0, HBI.out⟩
   case round =>
    obtain ⟨pos, hpos, hO, hi, hb⟩ := hrel
    have HO := Aside0.mk hO
    have HI := Aside0.mk hi
    have HB := Aside0.mk hb
    clear hO hi hb hOI hi0 HBI
    have hpp : pos = 0 ∨ pos = 1 ∨ pos = 2 ∨ pos = 3 := by omega
    rcases hpp with rfl | rfl | rfl | rfl
    ·have hnx := fun ty => omp_next wr g 0 ty (by omega) HI.out
     have hlt := blk_lt HI.out
     obtain ⟨w2, hw2⟩ : ∃ W, W = setB wr g (.stringIter ompS (0 + 1)) := ⟨_, rfl⟩
     rw [← hw2] at hnx
     have hI2 : w2.heap[g]? = some (.stringIter ompS 1) := by rw [hw2]; exact setB_same HI.out
     have hO2 := setB_R (o := .stringIter ompS (0 + 1)) HO.out
     rw [← hw2] at hO2
     have hB2 : Below w.heap.size w w2 := by rw [hw2]; exact setB_below HB.out hgw
     have hl2 : g < w2.heap.size := blk_lt hI2
     have HI2 := Aside0.mk hI2
     have HO2 := Aside0.mk hO2
     have HB2 := Aside0.mk hB2
     have hoc : ompC 0 = 111 := rfl
     rw [hoc] at hnx
     have hwr8 : IntKind.u8.wrap 111 = 111 := by decide
     clear hw2 hI2 hO2 hB2 hoc
     go_wp2_with (at_builtin; refine Kd.R_append k104 (w0 := w) w.heap.size rfl (.tmp 23) (.tmp 28) 127 104 (.agg #[.int .i64 0, .int .u8 0]) 16 rfl Tryd.underlying127 infoCl rfl (by decide) (by decide) _ (clsL 3 ++ (ompL 3).take 0) (⟨3, 111⟩) [.int .i64 3, .int .u8 111] (fun k => k ≠ g) (fun _ => False) rfl (by first | (simp; done) | rfl) (k104_mkM _ _ _ _) (fun _ h => h.elim) (fun k hk => by show k ≠ g; omega) HO2.out HB2.out HB2.out.size (by simp [ompL]; omega) ?_; intro v1 w1 ho1 hb1 hg1 _; have HO1 := Aside0.mk ho1; have HB1 := Aside0.mk hb1; have HG1 := Aside0.mk hg1; clear ho1 hb1 hg1)
     clear hnx
     have hz1 : w2.heap.size ≤ w1.heap.size := HG1.out.size
     go_roundw
     case rel => exact ⟨1, by omega, by simpa only [ompL, List.take_succ_cons, List.take_zero, List.append_assoc, List.cons_append, List.nil_append, List.append_nil] using HO1.out, (HG1.out.block g hl2 (Kd.R_away HO2.out (fun _ h => h))).trans HI2.out, HB1.out⟩
     case measure =>
      have hp1 := iterPos_of ((HG1.out.block g hl2 (Kd.R_away HO2.out (fun _ h => h))).trans HI2.out)
      have hp0 := iterPos_of HI.out
      simp only [hp1, hp0]
      omega
    ·have hnx := fun ty => omp_next wr g 1 ty (by omega) HI.out
     have hlt := blk_lt HI.out
     obtain ⟨w2, hw2⟩ : ∃ W, W = setB wr g (.stringIter ompS (1 + 1)) := ⟨_, rfl⟩
     rw [← hw2] at hnx
     have hI2 : w2.heap[g]? = some (.stringIter ompS 2) := by rw [hw2]; exact setB_same HI.out
     have hO2 := setB_R (o := .stringIter ompS (1 + 1)) HO.out
     rw [← hw2] at hO2
     have hB2 : Below w.heap.size w w2 := by rw [hw2]; exact setB_below HB.out hgw
     have hl2 : g < w2.heap.size := blk_lt hI2
     have HI2 := Aside0.mk hI2
     have HO2 := Aside0.mk hO2
     have HB2 := Aside0.mk hB2
     have hoc : ompC 1 = 109 := rfl
     rw [hoc] at hnx
     have hwr8 : IntKind.u8.wrap 109 = 109 := by decide
     clear hw2 hI2 hO2 hB2 hoc
     go_wp2_with (at_builtin; refine Kd.R_append k104 (w0 := w) w.heap.size rfl (.tmp 23) (.tmp 28) 127 104 (.agg #[.int .i64 0, .int .u8 0]) 16 rfl Tryd.underlying127 infoCl rfl (by decide) (by decide) _ (clsL 3 ++ (ompL 3).take 1) (⟨3, 109⟩) [.int .i64 3, .int .u8 109] (fun k => k ≠ g) (fun _ => False) rfl (by first | (simp; done) | rfl) (k104_mkM _ _ _ _) (fun _ h => h.elim) (fun k hk => by show k ≠ g; omega) HO2.out HB2.out HB2.out.size (by simp [ompL]; omega) ?_; intro v1 w1 ho1 hb1 hg1 _; have HO1 := Aside0.mk ho1; have HB1 := Aside0.mk hb1; have HG1 := Aside0.mk hg1; clear ho1 hb1 hg1)
     clear hnx
     have hz1 : w2.heap.size ≤ w1.heap.size := HG1.out.size
     go_roundw
     case rel => exact ⟨2, by omega, by simpa only [ompL, List.take_succ_cons, List.take_zero, List.append_assoc, List.cons_append, List.nil_append, List.append_nil] using HO1.out, (HG1.out.block g hl2 (Kd.R_away HO2.out (fun _ h => h))).trans HI2.out, HB1.out⟩
     case measure =>
      have hp1 := iterPos_of ((HG1.out.block g hl2 (Kd.R_away HO2.out (fun _ h => h))).trans HI2.out)
      have hp0 := iterPos_of HI.out
      simp only [hp1, hp0]
      omega
    ·have hnx := fun ty => omp_next wr g 2 ty (by omega) HI.out
     have hlt := blk_lt HI.out
     obtain ⟨w2, hw2⟩ : ∃ W, W = setB wr g (.stringIter ompS (2 + 1)) := ⟨_, rfl⟩
     rw [← hw2] at hnx
     have hI2 : w2.heap[g]? = some (.stringIter ompS 3) := by rw [hw2]; exact setB_same HI.out
     have hO2 := setB_R (o := .stringIter ompS (2 + 1)) HO.out
     rw [← hw2] at hO2
     have hB2 : Below w.heap.size w w2 := by rw [hw2]; exact setB_below HB.out hgw
     have hl2 : g < w2.heap.size := blk_lt hI2
     have HI2 := Aside0.mk hI2
     have HO2 := Aside0.mk hO2
     have HB2 := Aside0.mk hB2
     have hoc : ompC 2 = 112 := rfl
     rw [hoc] at hnx
     have hwr8 : IntKind.u8.wrap 112 = 112 := by decide
     clear hw2 hI2 hO2 hB2 hoc
     go_wp2_with (at_builtin; refine Kd.R_append k104 (w0 := w) w.heap.size rfl (.tmp 23) (.tmp 28) 127 104 (.agg #[.int .i64 0, .int .u8 0]) 16 rfl Tryd.underlying127 infoCl rfl (by decide) (by decide) _ (clsL 3 ++ (ompL 3).take 2) (⟨3, 112⟩) [.int .i64 3, .int .u8 112] (fun k => k ≠ g) (fun _ => False) rfl (by first | (simp; done) | rfl) (k104_mkM _ _ _ _) (fun _ h => h.elim) (fun k hk => by show k ≠ g; omega) HO2.out HB2.out HB2.out.size (by simp [ompL]; omega) ?_; intro v1 w1 ho1 hb1 hg1 _; have HO1 := Aside0.mk ho1; have HB1 := Aside0.mk hb1; have HG1 := Aside0.mk hg1; clear ho1 hb1 hg1)
     clear hnx
     have hz1 : w2.heap.size ≤ w1.heap.size := HG1.out.size
     go_roundw
     case rel => exact ⟨3, by omega, by simpa only [ompL, List.take_succ_cons, List.take_zero, List.append_assoc, List.cons_append, List.nil_append, List.append_nil] using HO1.out, (HG1.out.block g hl2 (Kd.R_away HO2.out (fun _ h => h))).trans HI2.out, HB1.out⟩
     case measure =>
      have hp1 := iterPos_of ((HG1.out.block g hl2 (Kd.R_away HO2.out (fun _ h => h))).trans HI2.out)
      have hp0 := iterPos_of HI.out
      simp only [hp1, hp0]
      omega
    ·have hnx := fun ty => omp_end wr g ty HI.out
     go_wp2
     go_roundw
     case rel => exact ⟨4, by omega, by first | rfl | go_num, by rw [HCL.out]; exact Kd.R_mono HO.out (fun _ _ => trivial), HB.out⟩
     case measure => simp [intOf]
  ·have hcl : clsL 5 = clsL 4 ++ ompL 4 := rfl
   have HCL := Aside0.mk hcl
   have hle := clsL_le 4
   clear hcl
   go_wp2_with fail
   obtain ⟨wI, hwI⟩ : ∃ W, W = wr.alloc (.stringIter ompS 0) := ⟨_, rfl⟩
   have hi0 : wI.heap[wr.heap.size]? = some (.stringIter ompS 0) := by rw [hwI]; exact blk_new _ _
   have hBI : Below wr.heap.size wr wI := by rw [hwI]; exact below_alloc (Below.refl _ _) _
   have hOI : Kd.R k104 104 wI w.heap.size (fun k => k ≠ wr.heap.size) _ (clsL 4) := Kd.R_mono (Kd.R_below (Kd.R_bound HO.out) hBI) (fun k hk => by have := hk.2.2.1; omega)
   rw [← hwI]
   obtain ⟨g, hg⟩ : ∃ g, g = wr.heap.size := ⟨_, rfl⟩
   rw [← hg] at hi0 hOI ⊢
   have hgw : w.heap.size ≤ g := by omega
   have HBI := Aside0.mk (HB.out.trans (hBI.mono hzr))
   clear hwI hBI hg HO HB
   try rw [show ((4 : Nat) : Int) = 4 from rfl]
   go_loopw [1] (fun v wr => ∃ pos : Nat, pos ≤ 3 ∧ Kd.R k104 104 wr w.heap.size (fun k => k ≠ g) v (clsL 4 ++ (ompL 4).take pos) ∧ wr.heap[g]? = some (.stringIter ompS pos) ∧ Below w.heap.size w wr) (fun _ wr => 3 - wr.iterPos g)
   case atStart => exact ⟨0, by omega, by simpa using hOI, hi0, HBI.out⟩
   case round =>
    obtain ⟨pos, hpos, hO, hi, hb⟩ := hrel
    have HO := Aside0.mk hO
    have HI := Aside0.mk hi
    have HB := Aside0.mk hb
    clear hO hi hb hOI hi0 HBI
    have hpp : pos = 0 ∨ pos = 1 ∨ pos = 2 ∨ pos = 3 := by omega
    rcases hpp with rfl | rfl | rfl | rfl
    ·have hnx := fun ty => omp_next wr g 0 ty (by omega) HI.out
     have hlt := blk_lt HI.out
     obtain ⟨w2, hw2⟩ : ∃ W, W = setB wr g (.stringIter ompS (0 + 1)) := ⟨_, rfl⟩
     rw [← hw2] at hnx
     have hI2 : w2.heap[g]? = some (.stringIter ompS 1) := by rw [hw2]; exact setB_same HI.out
     have hO2 := setB_R (o := .stringIter ompS (0 + 1)) HO.out
     rw [← hw2] at hO2
     have hB2 : Below w.heap.size w w2 := by rw [hw2]; exact setB_below HB.out hgw
     have hl2 : g < w2.heap.size := blk_lt hI2
     have HI2 := Aside0.mk hI2
     have HO2 := Aside0.mk hO2
     have HB2 := Aside0.mk hB2
     have hoc : ompC 0 = 111 := rfl
     rw [hoc] at hnx
     have hwr8 : IntKind.u8.wrap 111 = 111 := by decide
     clear hw2 hI2 hO2 hB2 hoc
     go_wp2_with (at_builtin; refine Kd.R_append k104 (w0 := w) w.heap.size rfl (.tmp 23) (.tmp 28) 127 104 (.agg #[.int .i64 0, .int .u8 0]) 16 rfl Tryd.underlying127 infoCl rfl (by decide) (by decide) _ (clsL 4 ++ (ompL 4).take 0) (⟨4, 111⟩) [.int .i64 4, .int .u8 111] (fun k => k ≠ g) (fun _ => False) rfl (by first | (simp; done) | rfl) (k104_mkM _ _ _ _) (fun _ h => h.elim) (fun k hk => by show k ≠ g; omega) HO2.out HB2.out HB2.out.size (by simp [ompL]; omega) ?_; intro v1 w1 ho1 hb1 hg1 _; have HO1 := Aside0.mk ho1; have HB1 := Aside0.mk hb1; have HG1 := Aside0.mk hg1; clear ho1 hb1 hg1)
     clear hnx
     have hz1 : w2.heap.size ≤ w1.heap.size := HG1.out.size
     go_roundw
     case rel => exact ⟨1, by omega, by simpa only [ompL, List.take_succ_cons, List.take_zero, List.append_assoc, List.cons_append, List.nil_append, List.append_nil] using HO1.out, (HG1.out.block g hl2 (Kd.R_away HO2.out (fun _ h => h))).trans HI2.out, HB1.out⟩
     case measure =>
      have hp1 := iterPos_of ((HG1.out.block g hl2 (Kd.R_away HO2.out (fun _ h => h))).trans HI2.out)
      have hp0 := iterPos_of HI.out
      simp only [hp1, hp0]
      omega
    ·have hnx := fun ty => omp_next wr g 1 ty (by omega) HI.out
     have hlt := blk_lt HI.out
     obtain ⟨w2, hw2⟩ : ∃ W, W = setB wr g (.stringIter ompS (1 + 1)) := ⟨_, rfl⟩
     rw [← hw2] at hnx
     have hI2 : w2.heap[g]? = some (.stringIter ompS 2) := by rw [hw2]; exact setB_same HI.out
     have hO2 := setB_R (o := .stringIter ompS (1 + 1)) HO.out
     rw [← hw2] at hO2
     have hB2 : Below w.heap.size w w2 := by rw [hw2]; exact setB_below HB.out hgw
     have hl2 : g < w2.heap.size := blk_lt hI2
     have HI2 := Aside0.mk hI2
     have HO2 := Aside0.mk hO2
     have HB2 := Aside0.mk hB2
     have hoc : ompC 1 = 109 := rfl
     rw [hoc] at hnx
     have hwr8 : IntKind.u8.wrap 109 = 109 := by decide
     clear hw2 hI2 hO2 hB2 hoc
     go_wp2_with (at_builtin; refine Kd.R_append k104 (w0 := w) w.heap.size rfl (.tmp 23) (.tmp 28) 127 104 (.agg #[.int .i64 0, .int .u8 0]) 16 rfl Tryd.underlying127 infoCl rfl (by decide) (by decide) _ (clsL 4 ++ (ompL 4).take 1) (⟨4, 109⟩) [.int .i64 4, .int .u8 109] (fun k => k ≠ g) (fun _ => False) rfl (by first | (simp; done) | rfl) (k104_mkM _ _ _ _) (fun _ h => h.elim) (fun k hk => by show k ≠ g; omega) HO2.out HB2.out HB2.out.size (by simp [ompL]; omega) ?_; intro v1 w1 ho1 hb1 hg1 _; have HO1 := Aside0.mk ho1; have HB1 := Aside0.mk hb1; have HG1 := Aside0.mk hg1; clear ho1 hb1 hg1)
     clear hnx
     have hz1 : w2.heap.size ≤ w1.heap.size := HG1.out.size
     go_roundw
     case rel => exact ⟨2, by omega, by simpa only [ompL, List.take_succ_cons, List.take_zero, List.append_assoc, List.cons_append, List.nil_append, List.append_nil] using HO1.out, (HG1.out.block g hl2 (Kd.R_away HO2.out (fun _ h => h))).trans HI2.out, HB1.out⟩
     case measure =>
      have hp1 := iterPos_of ((HG1.out.block g hl2 (Kd.R_away HO2.out (fun _ h => h))).trans HI2.out)
      have hp0 := iterPos_of HI.out
      simp only [hp1, hp0]
      omega
    ·have hnx := fun ty => omp_next wr g 2 ty (by omega) HI.out
     have hlt := blk_lt HI.out
     obtain ⟨w2, hw2⟩ : ∃ W, W = setB wr g (.stringIter ompS (2 + 1)) := ⟨_, rfl⟩
     rw [← hw2] at hnx
     have hI2 : w2.heap[g]? = some (.stringIter ompS 3) := by rw [hw2]; exact setB_same HI.out
     have hO2 := setB_R (o := .stringIter ompS (2 + 1)) HO.out
     rw [← hw2] at hO2
     have hB2 : Below w.heap.size w w2 := by rw [hw2]; exact setB_below HB.out hgw
     have hl2 : g < w2.heap.size := blk_lt hI2
     have HI2 := Aside0.mk hI2
     have HO2 := Aside0.mk hO2
     have HB2 := Aside0.mk hB2
     have hoc : ompC 2 = 112 := rfl
     rw [hoc] at hnx
     have hwr8 : IntKind.u8.wrap 112 = 112 := by decide
     clear hw2 hI2 hO2 hB2 hoc
     go_wp2_with (at_builtin; refine Kd.R_append k104 (w0 := w) w.heap.size rfl (.tmp 23) (.tmp 28) 127 104 (.agg #[.int .i64 0, .int .u8 0]) 16 rfl Tryd.underlying127 infoCl rfl (by decide) (by decide) _ (clsL 4 ++ (ompL 4).take 2) (⟨4, 112⟩) [.int .i64 4, .int .u8 112] (fun k => k ≠ g) (fun _ => False) rfl (by first | (simp; done) | rfl) (k104_mkM _ _ _ _) (fun _ h => h.elim) (fun k hk => by show k ≠ g; omega) HO2.out HB2.out HB2.out.size (by simp [ompL]; omega) ?_; intro v1 w1 ho1 hb1 hg1 _; have HO1 := Aside0.mk ho1; have HB1 := Aside0.mk hb1; have HG1 := Aside0.mk hg1; clear ho1 hb1 hg1)
     clear hnx
     have hz1 : w2.heap.size ≤ w1.heap.size := HG1.out.size
     go_roundw
     case rel => exact ⟨3, by omega, by simpa only [ompL, List.take_succ_cons, List.take_zero, List.append_assoc, List.cons_append, List.nil_append, List.append_nil] using HO1.out, (HG1.out.block g hl2 (Kd.R_away HO2.out (fun _ h => h))).trans HI2.out, HB1.out⟩
     case measure =>
      have hp1 := iterPos_of ((HG1.out.block g hl2 (Kd.R_away HO2.out (fun _ h => h))).trans HI2.out)
      have hp0 := iterPos_of HI.out
      simp only [hp1, hp0]
      omega
    ·have hnx := fun ty => omp_end wr g ty HI.out
     go_wp2
     go_roundw
     case rel => exact ⟨5, by omega, by first | rfl | go_num, by rw [HCL.out]; exact Kd.R_mono HO.out (fun _ _ => trivial), HB.out⟩
     case measure => simp [intOf]
  ·have hcl : clsL 6 = clsL 5 ++ [⟨5, 0⟩] := rfl
   have HCL := Aside0.mk hcl
   have hle := clsL_le 5
   clear hcl
   go_wp2_with (at_builtin; refine Kd.R_append k104 (w0 := w) w.heap.size rfl (.tmp 14) (.tmp 17) 127 104 (.agg #[.int .i64 0, .int .u8 0]) 16 rfl Tryd.underlying127 infoCl rfl (by decide) (by decide) _ (clsL 5) (⟨5, 0⟩) [.int .i64 5, .int .u8 0] (fun _ => True) (fun _ => False) rfl (by first | (simp; done) | rfl) (k104_mkM _ _ _ _) (fun _ h => h.elim) (fun _ _ => trivial) HO.out HB.out hzr (by omega) ?_; intro v1 w1 ho1 hb1 hg1 _; have HO1 := Aside0.mk ho1; have HB1 := Aside0.mk hb1; have HG1 := Aside0.mk hg1; clear ho1 hb1 hg1)
   go_roundw
   case rel => exact ⟨6, by omega, by first | rfl | go_num, by rw [HCL.out]; exact HO1.out, HB1.out⟩
   case measure => simp [intOf]
  ·have hcl : clsL 7 = clsL 6 ++ [⟨6, 0⟩] := rfl
   have HCL := Aside0.mk hcl
   have hle := clsL_le 6
   clear hcl
   go_wp2_with (at_builtin; refine Kd.R_append k104 (w0 := w) w.heap.size rfl (.tmp 14) (.tmp 17) 127 104 (.agg #[.int .i64 0, .int .u8 0]) 16 rfl Tryd.underlying127 infoCl rfl (by decide) (by decide) _ (clsL 6) (⟨6, 0⟩) [.int .i64 6, .int .u8 0] (fun _ => True) (fun _ => False) rfl (by first | (simp; done) | rfl) (k104_mkM _ _ _ _) (fun _ h => h.elim) (fun _ _ => trivial) HO.out HB.out hzr (by omega) ?_; intro v1 w1 ho1 hb1 hg1 _; have HO1 := Aside0.mk ho1; have HB1 := Aside0.mk hb1; have HG1 := Aside0.mk hg1; clear ho1 hb1 hg1)
   go_roundw
   case rel => exact ⟨7, by omega, by first | rfl | go_num, by rw [HCL.out]; exact HO1.out, HB1.out⟩
   case measure => simp [intOf]
  ·go_wp2
   go_ret
   exact ⟨_, rfl, HO.out, HB.out⟩
def XClasses.f : Option (List S104) := some (clsL 7)
theorem XClasses.calls (r : List S104) (w : World) (h : XClasses.f = some r) :
    Calls Tryd.prog 78 #[] w fun e w' => ∃ v0_ : Value, e = .returned (v0_) ∧ Kd.R k104 104 w' w.heap.size (fun _ => True) v0_ r ∧ Below w.heap.size w w' := by
 obtain rfl := Option.some.inj h
 exact classes_any w
def XLetter.f (x : Int) : Option Int := (bits_OnesCount.f (IntKind.u64.wrap x)).bind fun t => (table_turned.f x 1).bind fun u => (bits_OnesCount.f (IntKind.u64.wrap (Go.bits .and .i64 x u))).bind fun b => (table_turned.f x 2).bind fun v =>
 some (if t = 3 ∧ b = 0 then 112 else if t = 3 ∧ b = 1 then 109 else if b > 0 then 111 else if Go.bits .and .i64 x v = 0 then 112 else 109)
theorem letter_walk (x t u b v : Int) (w : World) (h1 : bits_OnesCount.f (IntKind.u64.wrap x) = some t) (h2 : table_turned.f x 1 = some u) (h3 : bits_OnesCount.f (IntKind.u64.wrap (Go.bits .and .i64 x u)) = some b) (h4 : table_turned.f x 2 = some v) :
    Calls Tryd.prog 109 #[.int .i64 x] w fun e w' => e = .returned (.int .u8 (if t = 3 ∧ b = 0 then 112 else if t = 3 ∧ b = 1 then 109 else if b > 0 then 111 else if Go.bits .and .i64 x v = 0 then 112 else 109)) ∧ Below w.heap.size w w' := by
 have c1 := fun W => bits_OnesCount.calls (IntKind.u64.wrap x) t W h1
 have c2 := fun W => table_turned.calls x 1 u W h2
 have c3 := fun W => bits_OnesCount.calls (IntKind.u64.wrap (Go.bits .and .i64 x u)) b W h3
 have c4 := fun W => table_turned.calls x 2 v W h4
 clear h1 h2 h3 h4
 generalize hy : Go.bits .and .i64 x u = y at c3
 generalize hz : Go.bits .and .i64 x v = z
 have HB0 := Aside0.mk (Below.refl w.heap.size w)
 have key : ∀ r : Int, (if t = 3 ∧ b = 0 then 112 else if t = 3 ∧ b = 1 then 109 else if b > 0 then 111 else if z = 0 then 112 else 109) = r →
     Calls Tryd.prog 109 #[.int .i64 x] w fun e w' => e = .returned (.int .u8 r) ∧ Below w.heap.size w w' := by
  intro r hr
  have HR := Aside0.mk hr
  clear hr
  go_enter Tryd.func109, Tryd.ntmps109
  go_wp2_with fail
  refine (c1 _).mono ?_
  rintro e w1 ⟨rfl, hd1⟩
  have HB1 := Aside0.mk (hd1.below : Below w.heap.size w w1)
  clear hd1
  by_cases ht : t = 3
  ·subst ht
   go_wp2_with fail
   refine (c2 _).mono ?_
   rintro e w2 ⟨rfl, hd2⟩
   have HB2 := Aside0.mk (HB1.out.trans ((hd2.below).mono HB1.out.size))
   clear hd2
   go_wp2_with fail
   refine (c3 _).mono ?_
   rintro e w3 ⟨rfl, hd3⟩
   have HB3 := Aside0.mk (HB2.out.trans ((hd3.below).mono HB2.out.size))
   clear hd3
   by_cases hb0 : b = 0
   ·subst hb0
    go_wp2
    go_ret
    exact ⟨by rw [← HR.out]; simp, HB3.out⟩
   ·have e0 : (b == 0) = false := beq_eq_false_iff_ne.2 hb0
    by_cases hb1 : b = 1
    ·subst hb1
     go_wp2
     go_ret
     exact ⟨by rw [← HR.out]; simp, HB3.out⟩
    ·have e1 : (b == 1) = false := beq_eq_false_iff_ne.2 hb1
     by_cases hbp : b > 0
     ·go_wp2
      go_ret
      exact ⟨by rw [← HR.out]; simp [hb0, hb1, hbp], HB3.out⟩
     ·by_cases hz0 : z = 0
      ·have ez : (z != 0) = false := by simp [hz0]
       go_wp2_with fail
       refine (c4 _).mono ?_
       rintro e w4 ⟨rfl, hd4⟩
       have HB4 := Aside0.mk (HB3.out.trans ((hd4.below).mono HB3.out.size))
       clear hd4
       go_wp2
       go_ret
       exact ⟨by rw [← HR.out]; simp [hb0, hb1, hbp, hz0], HB4.out⟩
      ·have ez : (z != 0) = true := by simp [hz0]
       go_wp2_with fail
       refine (c4 _).mono ?_
       rintro e w4 ⟨rfl, hd4⟩
       have HB4 := Aside0.mk (HB3.out.trans ((hd4.below).mono HB3.out.size))
       clear hd4
       go_wp2
       go_ret
       exact ⟨by rw [← HR.out]; simp [hb0, hb1, hbp, hz0], HB4.out⟩
  ·have et : (t == 3) = false := beq_eq_false_iff_ne.2 ht
   go_wp2_with fail
   refine (c2 _).mono ?_
   rintro e w2 ⟨rfl, hd2⟩
   have HB2 := Aside0.mk (HB1.out.trans ((hd2.below).mono HB1.out.size))
   clear hd2
   go_wp2_with fail
   refine (c3 _).mono ?_
   rintro e w3 ⟨rfl, hd3⟩
   have HB3 := Aside0.mk (HB2.out.trans ((hd3.below).mono HB2.out.size))
   clear hd3
   by_cases hbp : b > 0
   ·go_wp2
    go_ret
    exact ⟨by rw [← HR.out]; simp [ht, hbp], HB3.out⟩
   ·by_cases hz0 : z = 0
    ·have ez : (z != 0) = false := by simp [hz0]
     go_wp2_with fail
     refine (c4 _).mono ?_
     rintro e w4 ⟨rfl, hd4⟩
     have HB4 := Aside0.mk (HB3.out.trans ((hd4.below).mono HB3.out.size))
     clear hd4
     go_wp2
     go_ret
     exact ⟨by rw [← HR.out]; simp [ht, hbp, hz0], HB4.out⟩
    ·have ez : (z != 0) = true := by simp [hz0]
     go_wp2_with fail
     refine (c4 _).mono ?_
     rintro e w4 ⟨rfl, hd4⟩
     have HB4 := Aside0.mk (HB3.out.trans ((hd4.below).mono HB3.out.size))
     clear hd4
     go_wp2
     go_ret
     exact ⟨by rw [← HR.out]; simp [ht, hbp, hz0], HB4.out⟩
 exact key _ rfl
theorem XLetter.calls (a0 : Int) (r : Int) (w : World) (h : XLetter.f a0 = some r) :
    Calls Tryd.prog 109 #[.int .i64 a0] w fun e w' => e = .returned (.int .u8 r) ∧ Below w.heap.size w w' := by
 unfold XLetter.f at h
 obtain ⟨t, h1, h⟩ := Option.bind_eq_some_iff.1 h
 obtain ⟨u, h2, h⟩ := Option.bind_eq_some_iff.1 h
 obtain ⟨b, h3, h⟩ := Option.bind_eq_some_iff.1 h
 obtain ⟨v, h4, h⟩ := Option.bind_eq_some_iff.1 h
 obtain rfl := Option.some.inj h
 exact letter_walk a0 t u b v w h1 h2 h3 h4
namespace H
attribute [local go_sem] max2_int min2_int max_two min_two max_three min_three max_four min_four
attribute [local go_sem high] eqA104
def table_Ring.j0 : Nat → Int → Int → Bool → Option (Int × Int)
 | 0, _, _, _ => none
 | k + 1, x0, x3, x12 => if x12 = true then ((XLetter.f x0).bind fun t283 => (some (x3, t283))) else (some (x3, 0))
def table_Ring.f (k : Nat) (a0 : Int) : Option (Int × Int) := (bits_OnesCount.f (IntKind.u64.wrap (Go.bits .and .i64 a0 63))).bind fun t281 => (if t281 = 4 then ((XLetter.f (Go.bits .and .i64 (Go.bits .xor .i64 (-1) (Go.bits .and .i64 a0 63)) 63)).bind fun t282 => (some (t281, t282))) else (if t281 = 2 then (table_Ring.j0 k (Go.bits .and .i64 a0 63) t281 (t281 == 2)) else (table_Ring.j0 k (Go.bits .and .i64 a0 63) t281 (t281 == 3))))
theorem table_Ring.mono_l : ∀ k, (∀ y0 y1 y2, LeO (table_Ring.j0 k y0 y1 y2) (table_Ring.j0 (k + 1) y0 y1 y2))
 | 0 => fun _ _ _ r h => by simp [table_Ring.j0] at h
 | k + 1 => by
  have ih0 := table_Ring.mono_l k
  ·
   intro y0 y1 y2
   unfold table_Ring.j0
   repeat' first
   | (with_reducible exact ih0 _ _ _)
   | (with_reducible exact LeO.refl _)
   | (with_reducible exact LeO.none _)
   | (with_reducible refine LeO.ite ?_ ?_)
   | (with_reducible refine LeO.bind ?_ (fun _ => ?_))
   | exact ih0 _ _ _
   | exact LeO.none _
   | refine LeO.ite ?_ ?_
   | refine LeO.bind ?_ (fun _ => ?_)
theorem table_Ring.mono : ∀ a0 k, LeO (table_Ring.f k a0) (table_Ring.f (k + 1) a0) := by
 intro a0 k
 have ih0 := table_Ring.mono_l k
 unfold table_Ring.f
 repeat' first
   | (with_reducible exact ih0 _ _ _)
   | (with_reducible exact LeO.refl _)
   | (with_reducible exact LeO.none _)
   | (with_reducible refine LeO.ite ?_ ?_)
   | (with_reducible refine LeO.bind ?_ (fun _ => ?_))
   | exact ih0 _ _ _
   | exact LeO.none _
   | refine LeO.ite ?_ ?_
   | refine LeO.bind ?_ (fun _ => ?_)
theorem table_Ring.calls (k : Nat) (a0 : Int) (r1 : Int) (r2 : Int) (w : World) (h : table_Ring.f k a0 = some (r1, r2)) :
  Calls Tryd.prog 94 #[.int .i64 a0] w fun e w' => e = .returned (.agg #[.int .i64 r1, .int .u8 r2]) ∧ Below w.heap.size w w' := by
 have hu104 := Tryd.underlying104
 have HB := Aside0.mk (Below.refl w.heap.size w)
 have H : ((bits_OnesCount.f (IntKind.u64.wrap (Go.bits .and .i64 a0 63))).bind fun t281 => (if t281 = 4 then ((XLetter.f (Go.bits .and .i64 (Go.bits .xor .i64 (-1) (Go.bits .and .i64 a0 63)) 63)).bind fun t282 => (some (t281, t282))) else (if t281 = 2 then (table_Ring.j0 k (Go.bits .and .i64 a0 63) t281 (t281 == 2)) else (table_Ring.j0 k (Go.bits .and .i64 a0 63) t281 (t281 == 3))))) = some (r1, r2) := h
 clear h
 replace H := Option.bind_eq_some_iff.mp H
 obtain ⟨t281, A20, H⟩ := H
 replace H : (if t281 = 4 then ((XLetter.f (Go.bits .and .i64 (Go.bits .xor .i64 (-1) (Go.bits .and .i64 a0 63)) 63)).bind fun t282 => (some (t281, t282))) else (if t281 = 2 then (table_Ring.j0 k (Go.bits .and .i64 a0 63) t281 (t281 == 2)) else (table_Ring.j0 k (Go.bits .and .i64 a0 63) t281 (t281 == 3)))) = some (r1, r2) := H
 have A2 := Aside0.mk A20
 clear A20
 by_cases c3 : t281 = 4
 ·
  rw [if_pos c3] at H
  have c3b0 : (t281 == 4) = true := beq_iff_eq.mpr c3
  have c3b1 : (t281 != 4) = false := bne_eq_false_iff_eq.mpr c3
  clear c3
  replace H := Option.bind_eq_some_iff.mp H
  obtain ⟨t282, A40, H⟩ := H
  replace H : (some (t281, t282)) = some (r1, r2) := H
  have A4 := Aside0.mk A40
  clear A40
  simp only [Option.some.injEq, Prod.mk.injEq] at H
  obtain ⟨rfl, rfl⟩ := H
  go_enter Tryd.func94, Tryd.ntmps94
  go_wp2_with (first | ((with_reducible refine gate_dst (N := 2) rfl ?_); refine bx_ 2 #[.int .i64 0, .int .u8 0] 104 ?_; intro gb280 hg w5 hbox hb; have BK280 := Aside0.mk (hbox); have GW280 := Aside0.mk ((by rw [hg]; exact (below_size hb_) : w.heap.size ≤ gb280)); have GE280 := GW280; replace HB := Aside0.mk (below_step hb_ hb); clear hb hbox hg) | ((with_reducible refine gate_callee (f := 108) rfl ?_); refine goesL_ (some 8) rfl rfl Tryd.func108 (by kernel_rfl) rfl #[.int .u64 (IntKind.u64.wrap (Go.bits .and .i64 a0 63))] rfl ar_ ?_; (with_reducible refine (bits_OnesCount.calls (IntKind.u64.wrap (Go.bits .and .i64 a0 63)) t281 _ A2.out).mono ?_); rintro e w' ⟨rfl, ⟨nd, rfl⟩⟩; refine ⟨_, rfl, ?_⟩; (try (rw [drewN_self w5]; generalize hq_ : World.drewN w5 _ = w5; have n0_ : Aside0 (w5.heap[gb280]? = some (.cells #[.int .i64 0, .int .u8 0] 104 (0, 0))) := ⟨by rw [← hq_]; exact (bk_ BK280.out)⟩; have n1_ : Aside0 (Below w.heap.size w w5) := ⟨by rw [← hq_]; exact (hg_ GE280.out)⟩; clear BK280 HB hq_; have BK280 := n0_; have HB := n1_; clear n0_ n1_))) | ((with_reducible refine gate_callee (f := 109) rfl ?_); refine goesL_ (some 20) rfl rfl Tryd.func109 (by kernel_rfl) rfl #[.int .i64 (Go.bits .and .i64 (Go.bits .xor .i64 (-1) (Go.bits .and .i64 a0 63)) 63)] rfl ar_ ?_; (with_reducible refine (XLetter.calls (Go.bits .and .i64 (Go.bits .xor .i64 (-1) (Go.bits .and .i64 a0 63)) 63) t282 _ A4.out).mono ?_); rintro e w6 ⟨rfl, hb⟩; refine ⟨_, rfl, ?_⟩; replace BK280 := bb_ BK280.out hb; replace HB := Aside0.mk (below_step (hg_ GE280.out) hb); (try clear hb); (try clear hb2); (try clear hk); (try clear hi); obtain ⟨hcz7_0, hcz7_1⟩ := cz2_ BK280.out; obtain ⟨hfz7_0, hfz7_1⟩ := fz2_ BK280.out))
  refine bodyPost_ret (results_cell_row rfl _ _ gb280 104 #[.int .i64 t281, .int .u8 t282] (0, 0) _ rfl (by (with_reducible repeat (first | apply bN_ | apply bD_ | apply bA_)); refine blk_put (cs := #[.int .i64 t281, .int .u8 0]) ?_ 1 _ rfl; (with_reducible repeat (first | apply bN_ | apply bD_ | apply bA_)); refine blk_put (cs := #[.int .i64 0, .int .u8 0]) ?_ 0 _ rfl; (with_reducible repeat (first | apply bN_ | apply bD_ | apply bA_)); exact BK280.out) Tryd.underlying104 rfl (by kernel_rfl)) rfl ?_
  exact ⟨er_, hg_ GE280.out⟩
 rw [if_neg c3] at H
 have c3b0 : (t281 == 4) = false := beq_eq_false_iff_ne.mpr c3
 have c3b1 : (t281 != 4) = true := bne_iff_ne.mpr c3
 have HC8 := Aside0.mk H
 clear H
 go_enter Tryd.func94, Tryd.ntmps94
 go_upto_if 12 with (first | ((with_reducible refine gate_dst (N := 2) rfl ?_); refine bx_ 2 #[.int .i64 0, .int .u8 0] 104 ?_; intro gb280 hg w9 hbox hb; have BK280 := Aside0.mk (hbox); have GW280 := Aside0.mk ((by rw [hg]; exact (below_size hb_) : w.heap.size ≤ gb280)); have GE280 := GW280; replace HB := Aside0.mk (below_step hb_ hb); clear hb hbox hg) | ((with_reducible refine gate_callee (f := 108) rfl ?_); refine goesL_ (some 8) rfl rfl Tryd.func108 (by kernel_rfl) rfl #[.int .u64 (IntKind.u64.wrap (Go.bits .and .i64 a0 63))] rfl ar_ ?_; (with_reducible refine (bits_OnesCount.calls (IntKind.u64.wrap (Go.bits .and .i64 a0 63)) t281 _ A2.out).mono ?_); rintro e w' ⟨rfl, ⟨nd, rfl⟩⟩; refine ⟨_, rfl, ?_⟩))
 (try simp only [Act.put, List.setIfInBounds_toArray, List.set_cons_zero, List.set_cons_succ])
 go_cut [12] (fun v12 wc => ∃ (kq : Nat) (x12_7 : Bool), v12 = .bool x12_7 ∧ Aside0 (table_Ring.j0 kq (Go.bits .and .i64 a0 63) t281 x12_7 = some (r1, r2)) ∧ Aside0 (kq ≤ k) ∧ Aside0 (wc.heap[gb280]? = some (.cells #[.int .i64 0, .int .u8 0] 104 (0, 0))) ∧ Aside0 (Below w.heap.size w wc))
 case first =>
  have H := HC8.out
  clear HC8
  by_cases c10 : t281 = 2
  rotate_left
  ·
   rw [if_neg c10] at H
   have c10b0 : (t281 == 2) = false := beq_eq_false_iff_ne.mpr c10
   have c10b1 : (t281 != 2) = true := bne_iff_ne.mpr c10
   (first | rw [c10b0] | (simp only [i64_w, i32_w]; rw [c10b0]) | skip)
   have H' := Aside0.mk H
   clear H
   go_wp2
   go_meet
   case rel => exact ⟨_, ((t281 == 3)), rs_, H', ⟨by first | omega | exact Nat.le_refl _⟩, ⟨bk_ BK280.out⟩, ⟨by repeat (first | (with_reducible first | exact HB.out | apply ba_ | apply bn_ | apply bd_ | refine below_set ?_ GE280.out) | exact HB.out)⟩⟩
  rw [if_pos c10] at H
  have c10b0 : (t281 == 2) = true := beq_iff_eq.mpr c10
  have c10b1 : (t281 != 2) = false := bne_eq_false_iff_eq.mpr c10
  clear c10
  (first | rw [c10b0] | (simp only [i64_w, i32_w]; rw [c10b0]) | skip)
  have H' := Aside0.mk H
  clear H
  go_wp2
  go_meet
  case rel => exact ⟨_, ((t281 == 2)), rs_, H', ⟨by first | omega | exact Nat.le_refl _⟩, ⟨bk_ BK280.out⟩, ⟨by repeat (first | (with_reducible first | exact HB.out | apply ba_ | apply bn_ | apply bd_ | refine below_set ?_ GE280.out) | exact HB.out)⟩⟩
 case rest =>
  clear HC8
  try clear c1
  try clear p2
  try clear c3
  try clear c3b0
  try clear c3b1
  try clear c9
  try clear c10
  try clear c10b0
  try clear c10b1
  try clear hcz7_0
  try clear hcz7_1
  try clear hfz7_0
  try clear hfz7_1
  obtain ⟨kq, x12_7, rfl, HA, HJ7, BK280, HB⟩ := hcut
  cases kq with
  | zero => exact absurd HA.out (by simp [table_Ring.j0])
  | succ kj7 =>
   have H := HA.out
   clear HA
   simp only [table_Ring.j0] at H
   by_cases c11 : x12_7 = true
   rotate_left
   ·
    replace c11 := Bool.eq_false_iff.mpr c11
    subst c11
    have H1 : (some (t281, 0)) = some (r1, r2) := by rw [if_neg (show ¬ (false = true) by decide)] at H; exact H
    clear H
    have H := H1
    clear H1
    simp only [Option.some.injEq, Prod.mk.injEq] at H
    obtain ⟨rfl, rfl⟩ := H
    obtain ⟨hcz15_0, hcz15_1⟩ := cz2_ BK280.out
    obtain ⟨hfz15_0, hfz15_1⟩ := fz2_ BK280.out
    go_wp2
    refine bodyPost_ret (results_cell_row rfl _ _ gb280 104 #[.int .i64 t281, .int .u8 0] (0, 0) _ rfl (by (with_reducible repeat (first | apply bN_ | apply bD_ | apply bA_)); refine blk_put (cs := #[.int .i64 t281, .int .u8 0]) ?_ 1 _ rfl; (with_reducible repeat (first | apply bN_ | apply bD_ | apply bA_)); refine blk_put (cs := #[.int .i64 0, .int .u8 0]) ?_ 0 _ rfl; (with_reducible repeat (first | apply bN_ | apply bD_ | apply bA_)); exact BK280.out) Tryd.underlying104 rfl (by kernel_rfl)) rfl ?_
    exact ⟨er_, hg_ GE280.out⟩
   subst c11
   have H1 : ((XLetter.f (Go.bits .and .i64 a0 63)).bind fun t283 => (some (t281, t283))) = some (r1, r2) := by rw [if_pos rfl] at H; exact H
   clear H
   have H := H1
   clear H1
   replace H := Option.bind_eq_some_iff.mp H
   obtain ⟨t283, A120, H⟩ := H
   replace H : (some (t281, t283)) = some (r1, r2) := H
   have A12 := Aside0.mk A120
   clear A120
   simp only [Option.some.injEq, Prod.mk.injEq] at H
   obtain ⟨rfl, rfl⟩ := H
   go_wp2_with (first | ((with_reducible refine gate_callee (f := 109) rfl ?_); refine goesL_ (some 20) rfl rfl Tryd.func109 (by kernel_rfl) rfl #[.int .i64 (Go.bits .and .i64 a0 63)] rfl ar_ ?_; (with_reducible refine (XLetter.calls (Go.bits .and .i64 a0 63) t283 _ A12.out).mono ?_); rintro e w13 ⟨rfl, hb⟩; refine ⟨_, rfl, ?_⟩; replace BK280 := bb_ BK280.out hb; replace HB := Aside0.mk (below_step (hg_ GE280.out) hb); (try clear hb); (try clear hb2); (try clear hk); (try clear hi); obtain ⟨hcz14_0, hcz14_1⟩ := cz2_ BK280.out; obtain ⟨hfz14_0, hfz14_1⟩ := fz2_ BK280.out))
   refine bodyPost_ret (results_cell_row rfl _ _ gb280 104 #[.int .i64 t281, .int .u8 t283] (0, 0) _ rfl (by (with_reducible repeat (first | apply bN_ | apply bD_ | apply bA_)); refine blk_put (cs := #[.int .i64 t281, .int .u8 0]) ?_ 1 _ rfl; (with_reducible repeat (first | apply bN_ | apply bD_ | apply bA_)); refine blk_put (cs := #[.int .i64 0, .int .u8 0]) ?_ 0 _ rfl; (with_reducible repeat (first | apply bN_ | apply bD_ | apply bA_)); exact BK280.out) Tryd.underlying104 rfl (by kernel_rfl)) rfl ?_
   exact ⟨er_, hg_ GE280.out⟩
def table_Rings.l0 : Nat → Int → Int → Int → Int → Option (Int)
 | 0, _, _, _, _ => none
 | k + 1, x3, x5, x285000, x285001 => if x5 < 64 then ((table_Ring.f k x5).bind fun bt285 => (if (bt285.1 == x285000 && (bt285.2 == x285001)) = true then (if 0 ≤ x5 then (table_Rings.l0 k (Go.bits .or .u64 x3 (shl .u64 1 x5)) (wrap64 (x5 + 1)) x285000 x285001) else (none)) else (table_Rings.l0 k x3 (wrap64 (x5 + 1)) x285000 x285001))) else (some x3)
def table_Rings.f (k : Nat) (a0_0 : Int) (a0_1 : Int) : Option (Int) := table_Rings.l0 k 0 0 a0_0 a0_1
theorem table_Rings.mono_l : ∀ k, (∀ y0 y1 y2 y3, LeO (table_Rings.l0 k y0 y1 y2 y3) (table_Rings.l0 (k + 1) y0 y1 y2 y3))
 | 0 => fun _ _ _ _ r h => by simp [table_Rings.l0] at h
 | k + 1 => by
  have ih0 := table_Rings.mono_l k
  ·
   intro y0 y1 y2 y3
   unfold table_Rings.l0
   repeat' first
   | (with_reducible exact ih0 _ _ _ _)
   | (with_reducible exact table_Ring.mono _ _)
   | (with_reducible exact LeO.refl _)
   | (with_reducible exact LeO.none _)
   | (with_reducible refine LeO.ite ?_ ?_)
   | (with_reducible refine LeO.bind ?_ (fun _ => ?_))
   | exact ih0 _ _ _ _
   | exact table_Ring.mono _ _
   | exact LeO.none _
   | refine LeO.ite ?_ ?_
   | refine LeO.bind ?_ (fun _ => ?_)
theorem table_Rings.mono : ∀ a0 a1 k, LeO (table_Rings.f k a0 a1) (table_Rings.f (k + 1) a0 a1) := by
 intro a0 a1 k
 have ih0 := table_Rings.mono_l k
 unfold table_Rings.f
 repeat' first
   | (with_reducible exact ih0 _ _ _ _)
   | (with_reducible exact table_Ring.mono _ _)
   | (with_reducible exact LeO.refl _)
   | (with_reducible exact LeO.none _)
   | (with_reducible refine LeO.ite ?_ ?_)
   | (with_reducible refine LeO.bind ?_ (fun _ => ?_))
   | exact ih0 _ _ _ _
   | exact table_Ring.mono _ _
   | exact LeO.none _
   | refine LeO.ite ?_ ?_
   | refine LeO.bind ?_ (fun _ => ?_)
theorem table_Rings.calls (k : Nat) (a0_0 : Int) (a0_1 : Int) (r : Int) (w : World) (h : table_Rings.f k a0_0 a0_1 = some r) :
  Calls Tryd.prog 59 #[.agg #[.int .i64 a0_0, .int .u8 a0_1]] w fun e w' => e = .returned (.int .u64 r) ∧ Below w.heap.size w w' := by
 have hu104 := Tryd.underlying104
 have HB := Aside0.mk (Below.refl w.heap.size w)
 have H : (table_Rings.l0 k 0 0 a0_0 a0_1) = some r := h
 clear h
 have H' := Aside0.mk H
 clear H
 go_enter Tryd.func59, Tryd.ntmps59
 go_wp2_with (first | ((with_reducible refine gate_dst (N := 1) rfl ?_); refine bx_ 1 #[.int .i64 a0_0, .int .u8 a0_1] 104 ?_; intro gb284 hg w2 hbox hb; have BK284 := Aside0.mk (hbox); have GW284 := Aside0.mk ((by rw [hg]; exact (below_size hb_) : w.heap.size ≤ gb284)); have GE284 := GW284; replace HB := Aside0.mk (below_step hb_ hb); clear hb hbox hg))
 go_loopg [3, 5] k (fun kq v3 v5 w' => ∃ (x3_1 : Int) (x5_1 : Int), v3 = .int .u64 x3_1 ∧ v5 = .int .i64 x5_1 ∧ Aside0 (table_Rings.l0 kq x3_1 x5_1 a0_0 a0_1 = some r) ∧ Aside0 (kq ≤ k) ∧ Aside0 (w'.heap[gb284]? = some (.cells #[.int .i64 a0_0, .int .u8 a0_1] 104 (0, 0))) ∧ Aside0 (Below w.heap.size w w'))
 case atStart => exact ⟨(0), (0), rs_, rs_, H', ⟨Nat.le_refl _⟩, ⟨bk_ BK284.out⟩, ⟨by repeat (first | (with_reducible first | exact HB.out | apply ba_ | apply bn_ | apply bd_ | refine below_set ?_ GE284.out) | exact HB.out)⟩⟩
 case round =>
  clear H'
  try clear p2
  obtain ⟨x3_1, x5_1, rfl, rfl, HA, HK1, BK284, HB⟩ := hrel
  cases gk with
  | zero => exact absurd HA.out (by simp [table_Rings.l0])
  | succ k1 =>
   have H := HA.out
   clear HA
   simp only [table_Rings.l0] at H
   by_cases c3 : x5_1 < 64
   rotate_left
   ·
    rw [if_neg c3] at H
    have c3b0 : decide (x5_1 < 64) = false := decide_eq_false c3
    clear c3
    obtain rfl := Option.some.inj H
    go_wp2
    go_ret
    exact ⟨er_, hg_ GE284.out⟩
   rw [if_pos c3] at H
   have c3b0 : decide (x5_1 < 64) = true := decide_eq_true c3
   clear c3
   replace H := Option.bind_eq_some_iff.mp H
   obtain ⟨⟨t285, t286⟩, A40, H⟩ := H
   replace H : (if (t285 == a0_0 && (t286 == a0_1)) = true then (if 0 ≤ x5_1 then (table_Rings.l0 k1 (Go.bits .or .u64 x3_1 (shl .u64 1 x5_1)) (wrap64 (x5_1 + 1)) a0_0 a0_1) else (none)) else (table_Rings.l0 k1 x3_1 (wrap64 (x5_1 + 1)) a0_0 a0_1)) = some r := H
   have A4 := Aside0.mk A40
   clear A40
   by_cases c5 : (t285 == a0_0 && (t286 == a0_1)) = true
   rotate_left
   ·
    rw [if_neg c5] at H
    have c5b0 : (t285 == a0_0 && (t286 == a0_1)) = false := by simpa using c5
    (try (have c5b1 : decide (t285 = a0_0 && (t286 == a0_1)) = false := by simpa using c5))
    (try (have c5b2 : (t285 == a0_0 && (t286 == a0_1)) = false := by simpa using c5))
    (try (have c5b3 : ¬ (t285 = a0_0 && (t286 == a0_1)) := by simpa using c5))
    clear c5
    have H' := Aside0.mk H
    clear H
    try go_wp2
    replace BK284 := Aside0.mk (blk_drew BK284.out)
    replace HB := Aside0.mk (below_drew1 HB.out)
    refine start_ (n := 4) (S := fun w' => w'.cell? ⟨gb284, 0, none⟩ = some (.int .i64 a0_0) ∧ w'.cell? ⟨gb284, 1, none⟩ = some (.int .u8 a0_1)) (ds := []) (m_ 4 0) (by kernel_rfl) rfl rfl ⟨(blk_cell BK284.out 0).trans rfl, (blk_cell BK284.out 1).trans rfl⟩ (fun hHeld => ?_)
    generalize wr.drew = w10 at BK284 HB hHeld ⊢
    refine pure_ (i := 0) (N := some 8) (v := ?_) (a' := ?_) (m_ 4 1) rfl rfl (by kernel_rfl) (fun _ _ _ h => h) (Or.inl ⟨by rfl, ?_⟩) ?_ ?_
    rotate_left
    ·
     intro w'
     go_simp
     with_reducible rfl
    rotate_left
    ·
     simp only [puts_]
     rfl
    refine take_ (i := 2) (N := some 10) (v := ?_) (a' := ?_) (m_ 4 5) rfl rfl (by kernel_rfl) (fun _ _ _ h => h) (Or.inl ⟨by rfl, ?_⟩) hHeld ?_ ?_
    rotate_left
    ·
     rintro w' ⟨s0, s1⟩
     go_simp
     with_reducible rfl
    rotate_left
    ·
     simp only [puts_]
     rfl
    refine one_ (i := 1) (N := some 9) (m_ 4 7) rfl rfl (by kernel_rfl) (by decide) (fun K hK => ?_)
    refine goes_ Tryd.func94 (by kernel_rfl) rfl #[.int .i64 x5_1] (by rfl) rfl rfl ar_ ?_
    with_reducible refine (table_Ring.calls k1 x5_1 t285 t286 _ A4.out).mono ?_
    rintro e w11 ⟨rfl, hb⟩
    refine ⟨_, rfl, ?_⟩
    replace BK284 := bb_ BK284.out hb
    replace HB := Aside0.mk (below_step (hg_ GE284.out) hb)
    (try clear hb)
    (try clear hb2)
    (try clear hk)
    (try clear hi)
    refine hK.out _ _ ⟨(blk_cell BK284.out 0).trans rfl, (blk_cell BK284.out 1).trans rfl⟩ (fun hHeld => ?_)
    clear hK K
    refine norm_ (a' := ?_) ?_ ?_
    rotate_left
    ·
     show Act.put _ (some 9) _ = _
     simp only [puts_]
     rfl
    refine pure_ (i := 3) (N := some 11) (v := ?_) (a' := ?_) (m_ 4 15) rfl rfl (by kernel_rfl) (fun _ _ _ h => h) (Or.inl ⟨by rfl, ?_⟩) ?_ ?_
    rotate_left
    ·
     intro w'
     go_simp
     with_reducible rfl
    rotate_left
    ·
     simp only [puts_]
     rfl
    refine done_ (by kernel_rfl) ?_
    try go_wp2
    go_roundg k1
    case measure => have := HK1.out; omega
    case rel => exact ⟨(x3_1), (wrap64 (x5_1 + 1)), rs_, rs_, H', ⟨by have := HK1.out; omega⟩, ⟨bk_ BK284.out⟩, ⟨by repeat (first | (with_reducible first | exact HB.out | apply ba_ | apply bn_ | apply bd_ | refine below_set ?_ GE284.out) | exact HB.out)⟩⟩
   rw [if_pos c5] at H
   have c5b0 : (t285 == a0_0 && (t286 == a0_1)) = true := c5
   (try (have c5b1 : decide (t285 = a0_0 && (t286 == a0_1)) = true := by simpa using c5))
   (try (have c5b2 : (t285 == a0_0 && (t286 == a0_1)) = true := by simpa using c5))
   clear c5
   by_cases c6 : 0 ≤ x5_1
   rotate_left
   ·
    rw [if_neg c6] at H
    exact absurd H (by simp)
   rw [if_pos c6] at H
   have c6b0 := eq_true c6
   have c6b1 : decide (0 ≤ x5_1) = true := decide_eq_true c6
   clear c6
   obtain ⟨ji7, hji7⟩ : ∃ j_ : Int, (shl .u64 1 x5_1) = j_ := ⟨_, rfl⟩
   replace H : (table_Rings.l0 k1 (Go.bits .or .u64 x3_1 (ji7)) (wrap64 (x5_1 + 1)) a0_0 a0_1) = some r := by first | (rw [hji7] at H; exact H) | (simp only [hji7] at H ⊢; exact H)
   (try rw [hji7] at A4)
   have hji7_ : (IntKind.u64.wrap (1 * 2 ^ min x5_1.toNat 64)) = ji7 := hji7
   have hji7z : x5_1 ≤ 64 → (IntKind.u64.wrap (1 * 2 ^ x5_1.toNat)) = ji7 := shl_small hji7
   have hji7u : (IntKind.u64.wrap (2 ^ min x5_1.toNat 64)) = ji7 := by have h_ := hji7_; rw [Int.one_mul] at h_; exact h_
   have hji7v : x5_1 ≤ 64 → (IntKind.u64.wrap (2 ^ x5_1.toNat)) = ji7 := fun hle_ => by have h_ := hji7z hle_; rw [Int.one_mul] at h_; exact h_
   have H' := Aside0.mk H
   clear H
   try go_wp2
   replace BK284 := Aside0.mk (blk_drew BK284.out)
   replace HB := Aside0.mk (below_drew1 HB.out)
   refine start_ (n := 4) (S := fun w' => w'.cell? ⟨gb284, 0, none⟩ = some (.int .i64 a0_0) ∧ w'.cell? ⟨gb284, 1, none⟩ = some (.int .u8 a0_1)) (ds := []) (m_ 4 0) (by kernel_rfl) rfl rfl ⟨(blk_cell BK284.out 0).trans rfl, (blk_cell BK284.out 1).trans rfl⟩ (fun hHeld => ?_)
   generalize wr.drew = w8 at BK284 HB hHeld ⊢
   refine pure_ (i := 0) (N := some 8) (v := ?_) (a' := ?_) (m_ 4 1) rfl rfl (by kernel_rfl) (fun _ _ _ h => h) (Or.inl ⟨by rfl, ?_⟩) ?_ ?_
   rotate_left
   ·
    intro w'
    go_simp
    with_reducible rfl
   rotate_left
   ·
    simp only [puts_]
    rfl
   refine take_ (i := 2) (N := some 10) (v := ?_) (a' := ?_) (m_ 4 5) rfl rfl (by kernel_rfl) (fun _ _ _ h => h) (Or.inl ⟨by rfl, ?_⟩) hHeld ?_ ?_
   rotate_left
   ·
    rintro w' ⟨s0, s1⟩
    go_simp
    with_reducible rfl
   rotate_left
   ·
    simp only [puts_]
    rfl
   refine one_ (i := 1) (N := some 9) (m_ 4 7) rfl rfl (by kernel_rfl) (by decide) (fun K hK => ?_)
   refine goes_ Tryd.func94 (by kernel_rfl) rfl #[.int .i64 x5_1] (by rfl) rfl rfl ar_ ?_
   with_reducible refine (table_Ring.calls k1 x5_1 t285 t286 _ A4.out).mono ?_
   rintro e w9 ⟨rfl, hb⟩
   refine ⟨_, rfl, ?_⟩
   replace BK284 := bb_ BK284.out hb
   replace HB := Aside0.mk (below_step (hg_ GE284.out) hb)
   (try clear hb)
   (try clear hb2)
   (try clear hk)
   (try clear hi)
   refine hK.out _ _ ⟨(blk_cell BK284.out 0).trans rfl, (blk_cell BK284.out 1).trans rfl⟩ (fun hHeld => ?_)
   clear hK K
   refine norm_ (a' := ?_) ?_ ?_
   rotate_left
   ·
    show Act.put _ (some 9) _ = _
    simp only [puts_]
    rfl
   refine pure_ (i := 3) (N := some 11) (v := ?_) (a' := ?_) (m_ 4 15) rfl rfl (by kernel_rfl) (fun _ _ _ h => h) (Or.inl ⟨by rfl, ?_⟩) ?_ ?_
   rotate_left
   ·
    intro w'
    go_simp
    with_reducible rfl
   rotate_left
   ·
    simp only [puts_]
    rfl
   refine done_ (by kernel_rfl) ?_
   try go_wp2
   go_roundg k1
   case measure => have := HK1.out; omega
   case rel => exact ⟨(Go.bits .or .u64 x3_1 (ji7)), (wrap64 (x5_1 + 1)), (by first | rfl | (simp; done) | (simp only [← hji7] <;> (first | rfl | simp)) | (simp [*]; done)), rs_, H', ⟨by have := HK1.out; omega⟩, ⟨bk_ BK284.out⟩, ⟨by repeat (first | (with_reducible first | exact HB.out | apply ba_ | apply bn_ | apply bd_ | refine below_set ?_ GE284.out) | exact HB.out)⟩⟩
mutual
def honeycomblaw07_whole.l0 : Nat → List (S104) → Int → Int → Int → Int → Int → Int → Int → Option (Int × Int × Int × Int × Int)
 | 0, _, _, _, _, _, _, _, _ => none
 | k + 1, x23, x24, x25, x674000, x674001, x674002, x674003, x674004 => if x25 < x24 then (if 0 ≤ x25 then (if x25 < (x23.length : Int) then (if (Int.tmod x25 3) = 1 then ((table_Rings.f k ((rd_T104 x23 x25).f0) ((rd_T104 x23 x25).f1)).bind fun t680 => (honeycomblaw07_whole.j1 k x25 x23 x24 x25 x674000 (Go.bits .or .u64 x674001 t680) x674002 x674003 x674004 ((rd_T104 x23 x25).f0) ((rd_T104 x23 x25).f1))) else (honeycomblaw07_whole.j1 k x25 x23 x24 x25 x674000 x674001 x674002 x674003 x674004 ((rd_T104 x23 x25).f0) ((rd_T104 x23 x25).f1))) else (none)) else (none)) else (some (x674000, x674001, x674002, x674003, x674004))
def honeycomblaw07_whole.j1 : Nat → Int → List (S104) → Int → Int → Int → Int → Int → Int → Int → Int → Int → Option (Int × Int × Int × Int × Int)
 | 0, _, _, _, _, _, _, _, _, _, _, _ => none
 | k + 1, x3, x23, x24, x25, x674000, x674001, x674002, x674003, x674004, x680000, x680001 => if (Int.tmod x3 2) = 0 then ((table_Rings.f k x680000 x680001).bind fun t681 => (honeycomblaw07_whole.l0 k x23 x24 (wrap64 (x25 + 1)) x674000 x674001 x674002 (Go.bits .or .u64 x674003 t681) x674004)) else (honeycomblaw07_whole.l0 k x23 x24 (wrap64 (x25 + 1)) x674000 x674001 x674002 x674003 x674004)
end
def honeycomblaw07_whole.f (k : Nat) (a0_0 : Int) (a0_1 : Int) (a0_2 : Int) (a0_3 : Int) (a0_4 : Int) : Option (Int × Int × Int × Int × Int) := if a0_0 = 1 then ((XClasses.f).bind fun t675 => (honeycomblaw07_whole.l0 k t675 (t675.length : Int) 0 a0_0 0 0 0 0)) else (some (a0_0, a0_1, a0_1, a0_3, a0_3))
theorem honeycomblaw07_whole.mono_l : ∀ k, (∀ y0 y1 y2 y3 y4 y5 y6 y7, LeO (honeycomblaw07_whole.l0 k y0 y1 y2 y3 y4 y5 y6 y7) (honeycomblaw07_whole.l0 (k + 1) y0 y1 y2 y3 y4 y5 y6 y7)) ∧ (∀ y0 y1 y2 y3 y4 y5 y6 y7 y8 y9 y10, LeO (honeycomblaw07_whole.j1 k y0 y1 y2 y3 y4 y5 y6 y7 y8 y9 y10) (honeycomblaw07_whole.j1 (k + 1) y0 y1 y2 y3 y4 y5 y6 y7 y8 y9 y10))
 | 0 => ⟨fun _ _ _ _ _ _ _ _ r h => by simp [honeycomblaw07_whole.l0] at h, fun _ _ _ _ _ _ _ _ _ _ _ r h => by simp [honeycomblaw07_whole.j1] at h⟩
 | k + 1 => by
  obtain ⟨ih0, ih1⟩ := honeycomblaw07_whole.mono_l k
  refine ⟨?_, ?_⟩
  ·
   intro y0 y1 y2 y3 y4 y5 y6 y7
   unfold honeycomblaw07_whole.l0
   repeat' first
   | (with_reducible exact ih0 _ _ _ _ _ _ _ _)
   | (with_reducible exact ih1 _ _ _ _ _ _ _ _ _ _ _)
   | (with_reducible exact table_Rings.mono _ _ _)
   | (with_reducible exact LeO.refl _)
   | (with_reducible exact LeO.none _)
   | (with_reducible refine LeO.ite ?_ ?_)
   | (with_reducible refine LeO.bind ?_ (fun _ => ?_))
   | exact ih0 _ _ _ _ _ _ _ _
   | exact ih1 _ _ _ _ _ _ _ _ _ _ _
   | exact table_Rings.mono _ _ _
   | exact LeO.none _
   | refine LeO.ite ?_ ?_
   | refine LeO.bind ?_ (fun _ => ?_)
  ·
   intro y0 y1 y2 y3 y4 y5 y6 y7 y8 y9 y10
   unfold honeycomblaw07_whole.j1
   repeat' first
   | (with_reducible exact ih0 _ _ _ _ _ _ _ _)
   | (with_reducible exact ih1 _ _ _ _ _ _ _ _ _ _ _)
   | (with_reducible exact table_Rings.mono _ _ _)
   | (with_reducible exact LeO.refl _)
   | (with_reducible exact LeO.none _)
   | (with_reducible refine LeO.ite ?_ ?_)
   | (with_reducible refine LeO.bind ?_ (fun _ => ?_))
   | exact ih0 _ _ _ _ _ _ _ _
   | exact ih1 _ _ _ _ _ _ _ _ _ _ _
   | exact table_Rings.mono _ _ _
   | exact LeO.none _
   | refine LeO.ite ?_ ?_
   | refine LeO.bind ?_ (fun _ => ?_)
theorem honeycomblaw07_whole.mono : ∀ a0 a1 a2 a3 a4 k, LeO (honeycomblaw07_whole.f k a0 a1 a2 a3 a4) (honeycomblaw07_whole.f (k + 1) a0 a1 a2 a3 a4) := by
 intro a0 a1 a2 a3 a4 k
 obtain ⟨ih0, ih1⟩ := honeycomblaw07_whole.mono_l k
 unfold honeycomblaw07_whole.f
 repeat' first
   | (with_reducible exact ih0 _ _ _ _ _ _ _ _)
   | (with_reducible exact ih1 _ _ _ _ _ _ _ _ _ _ _)
   | (with_reducible exact table_Rings.mono _ _ _)
   | (with_reducible exact LeO.refl _)
   | (with_reducible exact LeO.none _)
   | (with_reducible refine LeO.ite ?_ ?_)
   | (with_reducible refine LeO.bind ?_ (fun _ => ?_))
   | exact ih0 _ _ _ _ _ _ _ _
   | exact ih1 _ _ _ _ _ _ _ _ _ _ _
   | exact table_Rings.mono _ _ _
   | exact LeO.none _
   | refine LeO.ite ?_ ?_
   | refine LeO.bind ?_ (fun _ => ?_)
def honeycomblaw07_whole.T9 : Bool × List (List Nat × List Nat) := (true, [([], []), ([0], [0]), ([1], [1]), ([], []), ([3], [3]), ([2, 4], [2, 4]), ([], []), ([6, 0, 1, 2, 3, 4, 5], [6]), ([7, 5, 4, 0, 1, 2, 3, 4, 5], [5, 7])])
def honeycomblaw07_whole.B9 : List Nat := [0, 1, 3, 0, 8, 31, 0, 127, 255]
theorem honeycomblaw07_whole.tab9 : rtab .any (opsOf Tryd.f39 9) = honeycomblaw07_whole.T9 := by kernel_rfl
theorem honeycomblaw07_whole.bits9 : waitsOk honeycomblaw07_whole.T9.2 honeycomblaw07_whole.B9 = true := by kernel_rfl
def honeycomblaw07_whole.T11 : Bool × List (List Nat × List Nat) := (true, [([], []), ([0], [0]), ([1], [1]), ([], []), ([3], [3]), ([2, 4], [2, 4]), ([], []), ([6, 0, 1, 2, 3, 4, 5], [6]), ([7, 5, 4, 0, 1, 2, 3, 4, 5], [5, 7])])
def honeycomblaw07_whole.B11 : List Nat := [0, 1, 3, 0, 8, 31, 0, 127, 255]
theorem honeycomblaw07_whole.tab11 : rtab .any (opsOf Tryd.f39 11) = honeycomblaw07_whole.T11 := by kernel_rfl
theorem honeycomblaw07_whole.bits11 : waitsOk honeycomblaw07_whole.T11.2 honeycomblaw07_whole.B11 = true := by kernel_rfl
theorem honeycomblaw07_whole.calls (k : Nat) (a0_0 : Int) (a0_1 : Int) (a0_2 : Int) (a0_3 : Int) (a0_4 : Int) (r1 : Int) (r2 : Int) (r3 : Int) (r4 : Int) (r5 : Int) (w : World) (h : honeycomblaw07_whole.f k a0_0 a0_1 a0_2 a0_3 a0_4 = some (r1, r2, r3, r4, r5)) :
  Calls Tryd.prog 39 #[.agg #[.int .i64 a0_0, .int .u64 a0_1, .int .u64 a0_2, .int .u64 a0_3, .int .u64 a0_4]] w fun e w' => e = .returned (.agg #[.int .i64 r1, .int .u64 r2, .int .u64 r3, .int .u64 r4, .int .u64 r5]) ∧ Below w.heap.size w w' := by
 have hu29 := Tryd.underlying29
 have hu23 := Tryd.underlying23
 have hu104 := Tryd.underlying104
 have HB := Aside0.mk (Below.refl w.heap.size w)
 have H : (if a0_0 = 1 then ((XClasses.f).bind fun t675 => (honeycomblaw07_whole.l0 k t675 (t675.length : Int) 0 a0_0 0 0 0 0)) else (some (a0_0, a0_1, a0_1, a0_3, a0_3))) = some (r1, r2, r3, r4, r5) := h
 clear h
 by_cases c2 : a0_0 = 1
 rotate_left
 ·
  rw [if_neg c2] at H
  have c2b0 : (a0_0 == 1) = false := beq_eq_false_iff_ne.mpr c2
  have c2b1 : (a0_0 != 1) = true := bne_iff_ne.mpr c2
  simp only [Option.some.injEq, Prod.mk.injEq] at H
  obtain ⟨rfl, rfl, rfl, rfl, rfl⟩ := H
  go_enter Tryd.func39, Tryd.ntmps39
  go_wp2_with (first | ((with_reducible refine gate_dst (N := 1) rfl ?_); refine bx_ 1 #[.int .i64 a0_0, .int .u64 a0_1, .int .u64 a0_2, .int .u64 a0_3, .int .u64 a0_4] 29 ?_; intro gb673 hg w32 hbox hb; have BK673 := Aside0.mk (hbox); have GW673 := Aside0.mk ((by rw [hg]; exact (below_size hb_) : w.heap.size ≤ gb673)); have GE673 := GW673; replace HB := Aside0.mk (below_step hb_ hb); clear hb hbox hg) | ((with_reducible refine gate_dst (N := 2) rfl ?_); refine bx_ 2 #[.int .i64 0, .int .u64 0, .int .u64 0, .int .u64 0, .int .u64 0] 29 ?_; intro gb674 hg w33 hbox hb; have BK674 := Aside0.mk (hbox); have GW674 := Aside0.mk ((by rw [hg]; exact (below_size (hg_ GE673.out)) : w.heap.size ≤ gb674)); have GE674 := GW674; have NB673_674 := Aside0.mk ((by rw [hg]; exact ne1_ BK673.out : gb673 ≠ gb674)); have NB674_673 := Aside0.mk ((by rw [hg]; exact ne2_ BK673.out : gb674 ≠ gb673)); replace BK673 := bb_ BK673.out hb; replace HB := Aside0.mk (below_step (hg_ GE673.out) hb); clear hb hbox hg; have hnb34 := NB673_674.out; have hnc34 := NB674_673.out; obtain ⟨hcz35_0, hcz35_1, hcz35_2, hcz35_3, hcz35_4⟩ := cz5_ BK673.out; obtain ⟨hfz35_0, hfz35_1, hfz35_2, hfz35_3, hfz35_4⟩ := fz5_ BK673.out; obtain ⟨hcz36_0, hcz36_1, hcz36_2, hcz36_3, hcz36_4⟩ := cz5_ BK674.out; obtain ⟨hfz36_0, hfz36_1, hfz36_2, hfz36_3, hfz36_4⟩ := fz5_ BK674.out))
  refine bodyPost_ret (results_cell_row rfl _ _ gb674 29 #[.int .i64 a0_0, .int .u64 a0_1, .int .u64 a0_1, .int .u64 a0_3, .int .u64 a0_3] (0, 0) _ rfl (by (with_reducible repeat (first | apply bN_ | apply bD_ | apply bA_)); refine blk_put (cs := #[.int .i64 a0_0, .int .u64 a0_1, .int .u64 a0_1, .int .u64 a0_3, .int .u64 0]) ?_ 4 _ rfl; (with_reducible repeat (first | apply bN_ | apply bD_ | apply bA_)); refine blk_put (cs := #[.int .i64 a0_0, .int .u64 a0_1, .int .u64 a0_1, .int .u64 0, .int .u64 0]) ?_ 3 _ rfl; (with_reducible repeat (first | apply bN_ | apply bD_ | apply bA_)); refine blk_put (cs := #[.int .i64 a0_0, .int .u64 a0_1, .int .u64 0, .int .u64 0, .int .u64 0]) ?_ 2 _ rfl; (with_reducible repeat (first | apply bN_ | apply bD_ | apply bA_)); refine blk_put (cs := #[.int .i64 a0_0, .int .u64 0, .int .u64 0, .int .u64 0, .int .u64 0]) ?_ 1 _ rfl; (with_reducible repeat (first | apply bN_ | apply bD_ | apply bA_)); refine blk_put (cs := #[.int .i64 0, .int .u64 0, .int .u64 0, .int .u64 0, .int .u64 0]) ?_ 0 _ rfl; (with_reducible repeat (first | apply bN_ | apply bD_ | apply bA_)); refine blk_far ?_ NB674_673.out _; (with_reducible repeat (first | apply bN_ | apply bD_ | apply bA_)); refine blk_far ?_ NB674_673.out _; (with_reducible repeat (first | apply bN_ | apply bD_ | apply bA_)); exact BK674.out) Tryd.underlying29 rfl (by kernel_rfl)) rfl ?_
  exact ⟨er_, hg2_ GE673.out GE674.out⟩
 rw [if_pos c2] at H
 have c2b0 : (a0_0 == 1) = true := beq_iff_eq.mpr c2
 have c2b1 : (a0_0 != 1) = false := bne_eq_false_iff_eq.mpr c2
 clear c2
 replace H := Option.bind_eq_some_iff.mp H
 obtain ⟨t675, A30, H⟩ := H
 replace H : (honeycomblaw07_whole.l0 k t675 (t675.length : Int) 0 a0_0 0 0 0 0) = some (r1, r2, r3, r4, r5) := H
 have A3 := Aside0.mk A30
 clear A30
 have H' := Aside0.mk H
 clear H
 go_enter Tryd.func39, Tryd.ntmps39
 go_wp2_with (first | ((with_reducible refine gate_dst (N := 1) rfl ?_); refine bx_ 1 #[.int .i64 a0_0, .int .u64 a0_1, .int .u64 a0_2, .int .u64 a0_3, .int .u64 a0_4] 29 ?_; intro gb673 hg w4 hbox hb; have BK673 := Aside0.mk (hbox); have GW673 := Aside0.mk ((by rw [hg]; exact (below_size hb_) : w.heap.size ≤ gb673)); have GE673 := GW673; replace HB := Aside0.mk (below_step hb_ hb); clear hb hbox hg) | ((with_reducible refine gate_dst (N := 2) rfl ?_); refine bx_ 2 #[.int .i64 0, .int .u64 0, .int .u64 0, .int .u64 0, .int .u64 0] 29 ?_; intro gb674 hg w5 hbox hb; have BK674 := Aside0.mk (hbox); have GW674 := Aside0.mk ((by rw [hg]; exact (below_size (hg_ GE673.out)) : w.heap.size ≤ gb674)); have GE674 := GW674; have NB673_674 := Aside0.mk ((by rw [hg]; exact ne1_ BK673.out : gb673 ≠ gb674)); have NB674_673 := Aside0.mk ((by rw [hg]; exact ne2_ BK673.out : gb674 ≠ gb673)); replace BK673 := bb_ BK673.out hb; replace HB := Aside0.mk (below_step (hg_ GE673.out) hb); clear hb hbox hg; have hnb6 := NB673_674.out; have hnc6 := NB674_673.out; obtain ⟨hcz7_0, hcz7_1, hcz7_2, hcz7_3, hcz7_4⟩ := cz5_ BK673.out; obtain ⟨hfz7_0, hfz7_1, hfz7_2, hfz7_3, hfz7_4⟩ := fz5_ BK673.out) | ((with_reducible refine gate_callee (f := 78) rfl ?_); refine goesL_ (some 23) rfl rfl Tryd.func78 (by kernel_rfl) rfl #[] rfl ar_ ?_; (with_reducible refine (XClasses.calls  t675 _ A3.out).mono ?_); rintro e w8 ⟨v676, rfl, ho0, hb⟩; refine ⟨_, rfl, ?_⟩; have HO677 := Aside0.mk (Kd.R_lower ho0 (below_size (hg2_ GE673.out GE674.out))); replace BK673 := Aside0.mk (blk_below (g := gb673) (o := .cells #[.int .i64 a0_0, .int .u64 0, .int .u64 0, .int .u64 0, .int .u64 0] 29 (0, 0)) (by (with_reducible repeat (first | apply bN_ | apply bD_ | apply bA_)); refine blk_put (cs := #[.int .i64 a0_0, .int .u64 0, .int .u64 0, .int .u64 0, .int .u64 a0_3]) ?_ 4 _ rfl; (with_reducible repeat (first | apply bN_ | apply bD_ | apply bA_)); refine blk_put (cs := #[.int .i64 a0_0, .int .u64 0, .int .u64 0, .int .u64 a0_3, .int .u64 a0_3]) ?_ 3 _ rfl; (with_reducible repeat (first | apply bN_ | apply bD_ | apply bA_)); refine blk_put (cs := #[.int .i64 a0_0, .int .u64 0, .int .u64 a0_1, .int .u64 a0_3, .int .u64 a0_3]) ?_ 2 _ rfl; (with_reducible repeat (first | apply bN_ | apply bD_ | apply bA_)); refine blk_put (cs := #[.int .i64 a0_0, .int .u64 a0_1, .int .u64 a0_1, .int .u64 a0_3, .int .u64 a0_3]) ?_ 1 _ rfl; (with_reducible repeat (first | apply bN_ | apply bD_ | apply bA_)); refine blk_put (cs := #[.int .i64 a0_0, .int .u64 a0_1, .int .u64 a0_1, .int .u64 a0_3, .int .u64 a0_4]) ?_ 4 _ rfl; (with_reducible repeat (first | apply bN_ | apply bD_ | apply bA_)); refine blk_put (cs := #[.int .i64 a0_0, .int .u64 a0_1, .int .u64 a0_2, .int .u64 a0_3, .int .u64 a0_4]) ?_ 2 _ rfl; (with_reducible repeat (first | apply bN_ | apply bD_ | apply bA_)); exact BK673.out) hb); replace BK674 := Aside0.mk (blk_below (g := gb674) (o := .cells #[.int .i64 0, .int .u64 0, .int .u64 0, .int .u64 0, .int .u64 0] 29 (0, 0)) (by (with_reducible repeat (first | apply bN_ | apply bD_ | apply bA_)); refine blk_far ?_ NB674_673.out _; (with_reducible repeat (first | apply bN_ | apply bD_ | apply bA_)); refine blk_far ?_ NB674_673.out _; (with_reducible repeat (first | apply bN_ | apply bD_ | apply bA_)); refine blk_far ?_ NB674_673.out _; (with_reducible repeat (first | apply bN_ | apply bD_ | apply bA_)); refine blk_far ?_ NB674_673.out _; (with_reducible repeat (first | apply bN_ | apply bD_ | apply bA_)); refine blk_far ?_ NB674_673.out _; (with_reducible repeat (first | apply bN_ | apply bD_ | apply bA_)); refine blk_far ?_ NB674_673.out _; (with_reducible repeat (first | apply bN_ | apply bD_ | apply bA_)); exact BK674.out) hb); replace HB := Aside0.mk (below_step (hg2_ GE673.out GE674.out) hb); (try clear hb); (try clear hb2); (try clear hk); (try clear hi); (try clear ho0); obtain ⟨Ao9, co9, eo9⟩ := Kd.R_slice HO677.out; subst eo9))
 go_loopg [25] k (fun kq v25 w' => ∃ (x25_1 : Int) (x674001_1 : Int) (x674002_1 : Int) (x674003_1 : Int) (x674004_1 : Int), v25 = .int .i64 x25_1 ∧ Aside0 (honeycomblaw07_whole.l0 kq t675 (t675.length : Int) x25_1 a0_0 x674001_1 x674002_1 x674003_1 x674004_1 = some (r1, r2, r3, r4, r5)) ∧ Aside0 (kq ≤ k) ∧ Aside0 (Kd.R k104 104 w' w.heap.size (fun _ => True) (.slice Ao9 t675.length co9) t675) ∧ Aside0 (w'.heap[gb673]? = some (.cells #[.int .i64 a0_0, .int .u64 x674001_1, .int .u64 x674002_1, .int .u64 x674003_1, .int .u64 x674004_1] 29 (0, 0))) ∧ Aside0 (w'.heap[gb674]? = some (.cells #[.int .i64 0, .int .u64 0, .int .u64 0, .int .u64 0, .int .u64 0] 29 (0, 0))) ∧ Aside0 (Below w.heap.size w w'))
 case atStart => exact ⟨(0), (0), (0), (0), (0), rs_, H', ⟨Nat.le_refl _⟩, ⟨kr_ HO677.out⟩, ⟨bk_ BK673.out⟩, ⟨bk_ BK674.out⟩, ⟨by repeat (first | (with_reducible first | exact HB.out | apply ba_ | apply bn_ | apply bd_ | refine below_set ?_ GE673.out | refine below_set ?_ GE674.out) | exact HB.out)⟩⟩
 case round =>
  clear H'
  try clear c2
  try clear c2b0
  try clear c2b1
  try clear p2
  try clear c3
  try clear c6
  try clear c7
  try clear hcz7_0
  try clear hcz7_1
  try clear hcz7_2
  try clear hcz7_3
  try clear hcz7_4
  try clear hfz7_0
  try clear hfz7_1
  try clear hfz7_2
  try clear hfz7_3
  try clear hfz7_4
  obtain ⟨x25_1, x674001_1, x674002_1, x674003_1, x674004_1, rfl, HA, HK1, HO_23, BK673, BK674, HB⟩ := hrel
  cases gk with
  | zero => exact absurd HA.out (by simp [honeycomblaw07_whole.l0])
  | succ k1 =>
   have H := HA.out
   clear HA
   simp only [honeycomblaw07_whole.l0] at H
   by_cases c10 : x25_1 < (t675.length : Int)
   rotate_left
   ·
    rw [if_neg c10] at H
    have c10b0 : decide (x25_1 < (t675.length : Int)) = false := decide_eq_false c10
    clear c10
    simp only [Option.some.injEq, Prod.mk.injEq] at H
    obtain ⟨rfl, rfl, rfl, rfl, rfl⟩ := H
    have hnb29 := NB673_674.out
    have hnc29 := NB674_673.out
    obtain ⟨hcz30_0, hcz30_1, hcz30_2, hcz30_3, hcz30_4⟩ := cz5_ BK673.out
    obtain ⟨hfz30_0, hfz30_1, hfz30_2, hfz30_3, hfz30_4⟩ := fz5_ BK673.out
    obtain ⟨hcz31_0, hcz31_1, hcz31_2, hcz31_3, hcz31_4⟩ := cz5_ BK674.out
    obtain ⟨hfz31_0, hfz31_1, hfz31_2, hfz31_3, hfz31_4⟩ := fz5_ BK674.out
    go_wp2
    refine bodyPost_ret (results_cell_row rfl _ _ gb674 29 #[.int .i64 a0_0, .int .u64 x674001_1, .int .u64 x674002_1, .int .u64 x674003_1, .int .u64 x674004_1] (0, 0) _ rfl (by (with_reducible repeat (first | apply bN_ | apply bD_ | apply bA_)); refine blk_put (cs := #[.int .i64 a0_0, .int .u64 x674001_1, .int .u64 x674002_1, .int .u64 x674003_1, .int .u64 0]) ?_ 4 _ rfl; (with_reducible repeat (first | apply bN_ | apply bD_ | apply bA_)); refine blk_put (cs := #[.int .i64 a0_0, .int .u64 x674001_1, .int .u64 x674002_1, .int .u64 0, .int .u64 0]) ?_ 3 _ rfl; (with_reducible repeat (first | apply bN_ | apply bD_ | apply bA_)); refine blk_put (cs := #[.int .i64 a0_0, .int .u64 x674001_1, .int .u64 0, .int .u64 0, .int .u64 0]) ?_ 2 _ rfl; (with_reducible repeat (first | apply bN_ | apply bD_ | apply bA_)); refine blk_put (cs := #[.int .i64 a0_0, .int .u64 0, .int .u64 0, .int .u64 0, .int .u64 0]) ?_ 1 _ rfl; (with_reducible repeat (first | apply bN_ | apply bD_ | apply bA_)); refine blk_put (cs := #[.int .i64 0, .int .u64 0, .int .u64 0, .int .u64 0, .int .u64 0]) ?_ 0 _ rfl; (with_reducible repeat (first | apply bN_ | apply bD_ | apply bA_)); exact BK674.out) Tryd.underlying29 rfl (by kernel_rfl)) rfl ?_
    exact ⟨er_, hg2_ GE673.out GE674.out⟩
   rw [if_pos c10] at H
   have c10b0 : decide (x25_1 < (t675.length : Int)) = true := decide_eq_true c10
   clear c10
   by_cases c11 : 0 ≤ x25_1
   rotate_left
   ·
    rw [if_neg c11] at H
    exact absurd H (by simp)
   rw [if_pos c11] at H
   have c11b0 : decide (0 ≤ x25_1) = true := decide_eq_true c11
   clear c11
   by_cases c12 : x25_1 < (t675.length : Int)
   rotate_left
   ·
    rw [if_neg c12] at H
    exact absurd H (by simp)
   rw [if_pos c12] at H
   have c12b0 : decide (x25_1 < (t675.length : Int)) = true := decide_eq_true c12
   clear c12
   have HC13 := Aside0.mk H
   clear H
   have p678 : 0 ≤ (x25_1 : Int) := of_decide_eq_true as_
   have q678 : x25_1 < (t675.length : Int) := of_decide_eq_true as_
   obtain ⟨ad678, e678, hx678_0, hx678_1⟩ := at_T104 (Kd.R_reads' HO_23.out).2.2 x25_1 p678 q678
   cases e678
   replace p678 := eq_true p678
   replace q678 := eq_true q678
   go_upto_if 32 with (first | ((with_reducible refine gate_dst (N := 4) rfl ?_); refine bx_ 4 #[.int .i64 0, .int .u8 0] 104 ?_; intro gb679 hg w14 hbox hb; have BK679 := Aside0.mk (hbox); have GW679 := Aside0.mk ((by rw [hg]; exact (below_size (hg2_ GE673.out GE674.out)) : w.heap.size ≤ gb679)); have GE679 := GW679; have NB673_679 := Aside0.mk ((by rw [hg]; exact ne1_ BK673.out : gb673 ≠ gb679)); have NB679_673 := Aside0.mk ((by rw [hg]; exact ne2_ BK673.out : gb679 ≠ gb673)); have NB674_679 := Aside0.mk ((by rw [hg]; exact ne1_ BK674.out : gb674 ≠ gb679)); have NB679_674 := Aside0.mk ((by rw [hg]; exact ne2_ BK674.out : gb679 ≠ gb674)); replace HO_23 := Aside0.mk (Kd.R_below (Kd.R_elderB (kr_ HO_23.out) gb679 (Nat.le_of_eq hg.symm)) hb); replace BK673 := bb_ BK673.out hb; replace BK674 := bb_ BK674.out hb; replace HB := Aside0.mk (below_step (hg2_ GE673.out GE674.out) hb); clear hb hbox hg; have hnb15 := NB679_673.out; have hnc15 := NB673_679.out; have hnb16 := NB679_674.out; have hnc16 := NB674_679.out; obtain ⟨hcz17_0, hcz17_1⟩ := cz2_ BK679.out; obtain ⟨hfz17_0, hfz17_1⟩ := fz2_ BK679.out))
   (try simp only [Act.put, List.setIfInBounds_toArray, List.set_cons_zero, List.set_cons_succ])
   go_cut [] (fun wc => ∃ (kq : Nat) (x674001_12 : Int) (x674002_12 : Int), Aside0 (honeycomblaw07_whole.j1 kq x25_1 t675 (t675.length : Int) x25_1 a0_0 x674001_12 x674002_12 x674003_1 x674004_1 ((rd_T104 t675 x25_1).f0) ((rd_T104 t675 x25_1).f1) = some (r1, r2, r3, r4, r5)) ∧ Aside0 (kq ≤ k1) ∧ Aside0 (Kd.R k104 104 wc w.heap.size (fun k_ => k_ ≠ gb679) (.slice (some ad678) t675.length co9) t675) ∧ Aside0 (wc.heap[gb673]? = some (.cells #[.int .i64 a0_0, .int .u64 x674001_12, .int .u64 x674002_12, .int .u64 x674003_1, .int .u64 x674004_1] 29 (0, 0))) ∧ Aside0 (wc.heap[gb674]? = some (.cells #[.int .i64 0, .int .u64 0, .int .u64 0, .int .u64 0, .int .u64 0] 29 (0, 0))) ∧ Aside0 (wc.heap[gb679]? = some (.cells #[.int .i64 ((rd_T104 t675 x25_1).f0), .int .u8 ((rd_T104 t675 x25_1).f1)] 104 (0, 0))) ∧ Aside0 (Below w.heap.size w wc))
   case first =>
    have H := HC13.out
    clear HC13
    by_cases c18 : (Int.tmod x25_1 3) = 1
    rotate_left
    ·
     rw [if_neg c18] at H
     have c18b0 : ((Int.tmod x25_1 3) == 1) = false := beq_eq_false_iff_ne.mpr c18
     have c18b1 : ((Int.tmod x25_1 3) != 1) = true := bne_iff_ne.mpr c18
     (first | rw [c18b0] | (simp only [i64_w, i32_w]; rw [c18b0]) | skip)
     have H' := Aside0.mk H
     clear H
     go_wp2
     go_meet
     case rel => exact ⟨_, (x674001_1), (x674002_1), H', ⟨by have := HK1.out; first | omega | exact Nat.le_refl _⟩, ⟨by (with_reducible repeat (first | apply Kd.R_alloc | apply Kd.R_drewN | apply Kd.R_drew)); exact Kd.R_mono (Kd.R_far (p := ⟨gb679, 1, none⟩) (Kd.R_far (p := ⟨gb679, 0, none⟩) (Kd.R_mono HO_23.out (fun k_ hk => (⟨hk, hk.2⟩ : _ ∧ k_ ≠ gb679))) (fun _ hk => hk.2) (.int .i64 ((rd_T104 t675 x25_1).f0))) (fun _ hk => hk.2) (.int .u8 ((rd_T104 t675 x25_1).f1))) (fun _ hk => hk.1.2)⟩, ⟨by (with_reducible repeat (first | apply bN_ | apply bD_ | apply bA_)); refine blk_far ?_ NB673_679.out _; (with_reducible repeat (first | apply bN_ | apply bD_ | apply bA_)); refine blk_far ?_ NB673_679.out _; (with_reducible repeat (first | apply bN_ | apply bD_ | apply bA_)); exact BK673.out⟩, ⟨by (with_reducible repeat (first | apply bN_ | apply bD_ | apply bA_)); refine blk_far ?_ NB674_679.out _; (with_reducible repeat (first | apply bN_ | apply bD_ | apply bA_)); refine blk_far ?_ NB674_679.out _; (with_reducible repeat (first | apply bN_ | apply bD_ | apply bA_)); exact BK674.out⟩, ⟨by (with_reducible repeat (first | apply bN_ | apply bD_ | apply bA_)); refine blk_put (cs := #[.int .i64 ((rd_T104 t675 x25_1).f0), .int .u8 0]) ?_ 1 _ rfl; (with_reducible repeat (first | apply bN_ | apply bD_ | apply bA_)); refine blk_put (cs := #[.int .i64 0, .int .u8 0]) ?_ 0 _ rfl; (with_reducible repeat (first | apply bN_ | apply bD_ | apply bA_)); exact BK679.out⟩, ⟨by repeat (first | (with_reducible first | exact HB.out | apply ba_ | apply bn_ | apply bd_ | refine below_set ?_ GE673.out | refine below_set ?_ GE674.out | refine below_set ?_ GE679.out) | exact HB.out)⟩⟩
    rw [if_pos c18] at H
    have c18b0 : ((Int.tmod x25_1 3) == 1) = true := beq_iff_eq.mpr c18
    have c18b1 : ((Int.tmod x25_1 3) != 1) = false := bne_eq_false_iff_eq.mpr c18
    clear c18
    (first | rw [c18b0] | (simp only [i64_w, i32_w]; rw [c18b0]) | skip)
    replace H := Option.bind_eq_some_iff.mp H
    obtain ⟨t680, A190, H⟩ := H
    replace H : (honeycomblaw07_whole.j1 k1 x25_1 t675 (t675.length : Int) x25_1 a0_0 (Go.bits .or .u64 x674001_1 t680) x674002_1 x674003_1 x674004_1 ((rd_T104 t675 x25_1).f0) ((rd_T104 t675 x25_1).f1)) = some (r1, r2, r3, r4, r5) := H
    have A19 := Aside0.mk A190
    clear A190
    have H' := Aside0.mk H
    clear H
    try go_wp2
    have n0_ : Aside0 (Kd.R k104 104 ((w14.setCell ⟨gb679, 0, none⟩ (.int .i64 ((rd_T104 t675 x25_1).f0))).setCell ⟨gb679, 1, none⟩ (.int .u8 ((rd_T104 t675 x25_1).f1))) w.heap.size (fun k_ => k_ ≠ gb679) (.slice (some ad678) t675.length co9) t675) := ⟨by (with_reducible repeat (first | apply Kd.R_alloc | apply Kd.R_drewN | apply Kd.R_drew)); exact Kd.R_mono (Kd.R_far (p := ⟨gb679, 1, none⟩) (Kd.R_far (p := ⟨gb679, 0, none⟩) (Kd.R_mono HO_23.out (fun k_ hk => (⟨hk, hk.2⟩ : _ ∧ k_ ≠ gb679))) (fun _ hk => hk.2) (.int .i64 ((rd_T104 t675 x25_1).f0))) (fun _ hk => hk.2) (.int .u8 ((rd_T104 t675 x25_1).f1))) (fun _ hk => hk.1.2)⟩
    have n1_ : Aside0 (((w14.setCell ⟨gb679, 0, none⟩ (.int .i64 ((rd_T104 t675 x25_1).f0))).setCell ⟨gb679, 1, none⟩ (.int .u8 ((rd_T104 t675 x25_1).f1))).heap[gb673]? = some (.cells #[.int .i64 a0_0, .int .u64 x674001_1, .int .u64 x674002_1, .int .u64 x674003_1, .int .u64 x674004_1] 29 (0, 0))) := ⟨by (with_reducible repeat (first | apply bN_ | apply bD_ | apply bA_)); refine blk_far ?_ NB673_679.out _; (with_reducible repeat (first | apply bN_ | apply bD_ | apply bA_)); refine blk_far ?_ NB673_679.out _; (with_reducible repeat (first | apply bN_ | apply bD_ | apply bA_)); exact BK673.out⟩
    have n2_ : Aside0 (((w14.setCell ⟨gb679, 0, none⟩ (.int .i64 ((rd_T104 t675 x25_1).f0))).setCell ⟨gb679, 1, none⟩ (.int .u8 ((rd_T104 t675 x25_1).f1))).heap[gb674]? = some (.cells #[.int .i64 0, .int .u64 0, .int .u64 0, .int .u64 0, .int .u64 0] 29 (0, 0))) := ⟨by (with_reducible repeat (first | apply bN_ | apply bD_ | apply bA_)); refine blk_far ?_ NB674_679.out _; (with_reducible repeat (first | apply bN_ | apply bD_ | apply bA_)); refine blk_far ?_ NB674_679.out _; (with_reducible repeat (first | apply bN_ | apply bD_ | apply bA_)); exact BK674.out⟩
    have n3_ : Aside0 (((w14.setCell ⟨gb679, 0, none⟩ (.int .i64 ((rd_T104 t675 x25_1).f0))).setCell ⟨gb679, 1, none⟩ (.int .u8 ((rd_T104 t675 x25_1).f1))).heap[gb679]? = some (.cells #[.int .i64 ((rd_T104 t675 x25_1).f0), .int .u8 ((rd_T104 t675 x25_1).f1)] 104 (0, 0))) := ⟨by (with_reducible repeat (first | apply bN_ | apply bD_ | apply bA_)); refine blk_put (cs := #[.int .i64 ((rd_T104 t675 x25_1).f0), .int .u8 0]) ?_ 1 _ rfl; (with_reducible repeat (first | apply bN_ | apply bD_ | apply bA_)); refine blk_put (cs := #[.int .i64 0, .int .u8 0]) ?_ 0 _ rfl; (with_reducible repeat (first | apply bN_ | apply bD_ | apply bA_)); exact BK679.out⟩
    have n4_ : Aside0 (Below w.heap.size w ((w14.setCell ⟨gb679, 0, none⟩ (.int .i64 ((rd_T104 t675 x25_1).f0))).setCell ⟨gb679, 1, none⟩ (.int .u8 ((rd_T104 t675 x25_1).f1)))) := ⟨by repeat (first | (with_reducible first | exact HB.out | apply ba_ | apply bn_ | apply bd_ | refine below_set ?_ GE673.out | refine below_set ?_ GE674.out | refine below_set ?_ GE679.out) | exact HB.out)⟩
    (try clear HO_23)
    (try clear BK673)
    (try clear BK674)
    (try clear BK679)
    (try clear HB)
    generalize ((w14.setCell ⟨gb679, 0, none⟩ (.int .i64 ((rd_T104 t675 x25_1).f0))).setCell ⟨gb679, 1, none⟩ (.int .u8 ((rd_T104 t675 x25_1).f1))) = w20 at n0_ n1_ n2_ n3_ n4_ ⊢
    have HO_23 := n0_
    have BK673 := n1_
    have BK674 := n2_
    have BK679 := n3_
    have HB := n4_
    clear n0_ n1_ n2_ n3_ n4_
    replace HO_23 := Aside0.mk (Kd.R_drew HO_23.out)
    replace BK673 := Aside0.mk (blk_drew BK673.out)
    replace BK674 := Aside0.mk (blk_drew BK674.out)
    replace BK679 := Aside0.mk (blk_drew BK679.out)
    replace HB := Aside0.mk (below_drew1 HB.out)
    refine start_ (n := 9) (S := fun w' => w'.cell? ⟨gb673, 0, none⟩ = some (.int .i64 a0_0) ∧ w'.cell? ⟨gb673, 1, none⟩ = some (.int .u64 x674001_1) ∧ w'.cell? ⟨gb673, 2, none⟩ = some (.int .u64 x674002_1) ∧ w'.cell? ⟨gb673, 3, none⟩ = some (.int .u64 x674003_1) ∧ w'.cell? ⟨gb673, 4, none⟩ = some (.int .u64 x674004_1) ∧ w'.cell? ⟨gb679, 0, none⟩ = some (.int .i64 ((rd_T104 t675 x25_1).f0)) ∧ w'.cell? ⟨gb679, 1, none⟩ = some (.int .u8 ((rd_T104 t675 x25_1).f1))) (ds := [8]) (m_ 9 0) (by kernel_rfl) rfl rfl ⟨(blk_cell BK673.out 0).trans rfl, (blk_cell BK673.out 1).trans rfl, (blk_cell BK673.out 2).trans rfl, (blk_cell BK673.out 3).trans rfl, (blk_cell BK673.out 4).trans rfl, (blk_cell BK679.out 0).trans rfl, (blk_cell BK679.out 1).trans rfl⟩ (fun hHeld => ?_); refine with_tabW honeycomblaw07_whole.tab9 honeycomblaw07_whole.bits9 (fun HT_ HW_ => ?_)
    generalize w20.drew = w21 at HO_23 BK673 BK674 BK679 HB hHeld ⊢
    refine pq_ 0 (some 33) (m_ 9 1) (h := ?_)
    refine pq_ 1 (some 34) (m_ 9 3) (h := ?_)
    refine pq_ 6 (some 39) (m_ 9 67) (h := ?_)
    refine tq7_ 2 (some 35) (m_ 9 71) (h := ?_)
    refine tq7_ 3 (some 36) (m_ 9 79) (h := ?_)
    refine one_ (i := 4) (N := some 37) (m_ 9 95) rfl rfl (one_of HT_.out (by kernel_rfl)) (by decide) (fun K hK => ?_)
    refine goes_ Tryd.func59 (by kernel_rfl) rfl #[.agg #[.int .i64 ((rd_T104 t675 x25_1).f0), .int .u8 ((rd_T104 t675 x25_1).f1)]] (by rfl) rfl rfl ar_ ?_
    with_reducible refine (table_Rings.calls k1 ((rd_T104 t675 x25_1).f0) ((rd_T104 t675 x25_1).f1) t680 _ A19.out).mono ?_
    rintro e w22 ⟨rfl, hb⟩
    refine ⟨_, rfl, ?_⟩
    replace HO_23 := Aside0.mk (Kd.R_below (kr_ HO_23.out) hb)
    replace BK673 := bb_ BK673.out hb
    replace BK674 := bb_ BK674.out hb
    replace BK679 := bb_ BK679.out hb
    replace HB := Aside0.mk (below_step (hg3_ GE673.out GE674.out GE679.out) hb)
    (try clear hb)
    (try clear hb2)
    (try clear hk)
    (try clear hi)
    refine hK.out _ _ ⟨(blk_cell BK673.out 0).trans rfl, (blk_cell BK673.out 1).trans rfl, (blk_cell BK673.out 2).trans rfl, (blk_cell BK673.out 3).trans rfl, (blk_cell BK673.out 4).trans rfl, (blk_cell BK679.out 0).trans rfl, (blk_cell BK679.out 1).trans rfl⟩ (fun hHeld => ?_)
    clear hK K
    refine norm_ (a' := ?_) ?_ ?_
    rotate_left
    ·
     show Act.put _ (some 37) _ = _
     simp only [puts_]
     rfl
    refine pq_ 5 (some 38) (m_ 9 127) (h := ?_)
    refine pq_ 7 (some 40) (m_ 9 255) (h := ?_)
    refine last_ (i := 8) (N := none) (m_ 9 511) rfl rfl (one_of HT_.out (by kernel_rfl)) (by decide) (fun K hK => ?_)
    have hs23 : w22.cell? ⟨gb673, 1, none⟩ = some (.int .u64 x674001_1) := (blk_cell BK673.out 1).trans rfl
    have hfs23 := blk_frozen BK673.out 1
    have hns23_1 := NB674_673.out
    have hns23_2 := NB679_673.out
    have hms23_1 := NB673_674.out
    have hms23_2 := NB673_679.out
    refine skip_ (w1 := ?_) (by rfl) rfl ?_ ?_
    rotate_left
    ·
     go_simp
     rfl
    refine hK.out _ _ ?_
    clear hK K
    refine done_ (done_of HT_.out (by kernel_rfl)) ?_
    try go_wp2
    go_meet
    case rel => exact ⟨_, (Go.bits .or .u64 x674001_1 t680), (x674002_1), H', ⟨by have := HK1.out; first | omega | exact Nat.le_refl _⟩, ⟨by (with_reducible repeat (first | apply Kd.R_alloc | apply Kd.R_drewN | apply Kd.R_drew)); exact Kd.R_mono (Kd.R_far (p := ⟨gb673, 1, none⟩) (Kd.R_types HO_23.out BK673.out (by decide)) (fun _ hk => hk.2) (.int .u64 (Go.bits .or .u64 x674001_1 t680))) (fun _ hk => hk.1)⟩, ⟨by (with_reducible repeat (first | apply bN_ | apply bD_ | apply bA_)); refine blk_put (cs := #[.int .i64 a0_0, .int .u64 x674001_1, .int .u64 x674002_1, .int .u64 x674003_1, .int .u64 x674004_1]) ?_ 1 _ rfl; (with_reducible repeat (first | apply bN_ | apply bD_ | apply bA_)); exact BK673.out⟩, ⟨by (with_reducible repeat (first | apply bN_ | apply bD_ | apply bA_)); refine blk_far ?_ NB674_673.out _; (with_reducible repeat (first | apply bN_ | apply bD_ | apply bA_)); exact BK674.out⟩, ⟨by (with_reducible repeat (first | apply bN_ | apply bD_ | apply bA_)); refine blk_far ?_ NB679_673.out _; (with_reducible repeat (first | apply bN_ | apply bD_ | apply bA_)); exact BK679.out⟩, ⟨by repeat (first | (with_reducible first | exact HB.out | apply ba_ | apply bn_ | apply bd_ | refine below_set ?_ GE673.out | refine below_set ?_ GE674.out | refine below_set ?_ GE679.out) | exact HB.out)⟩⟩
   case rest =>
    clear HC13
    try clear c1
    try clear c2
    try clear c2b0
    try clear c2b1
    try clear p2
    try clear c3
    try clear c5
    try clear c6
    try clear p6
    try clear q6
    try clear hx6
    try clear c7
    try clear c10
    try clear c10b0
    try clear c11
    try clear c11b0
    try clear c12
    try clear c12b0
    try clear c15
    try clear c16
    try clear c18
    try clear c18b0
    try clear c18b1
    try clear hcz17_0
    try clear hcz17_1
    try clear hcz7_0
    try clear hcz7_1
    try clear hcz7_2
    try clear hcz7_3
    try clear hcz7_4
    try clear hfz17_0
    try clear hfz17_1
    try clear hfz7_0
    try clear hfz7_1
    try clear hfz7_2
    try clear hfz7_3
    try clear hfz7_4
    try clear hx678_0
    try clear hx678_1
    try clear p2
    try clear p678
    try clear q678
    obtain ⟨kq, x674001_12, x674002_12, HA, HJ12, HO_23, BK673, BK674, BK679, HB⟩ := hcut
    cases kq with
    | zero => exact absurd HA.out (by simp [honeycomblaw07_whole.j1])
    | succ kj12 =>
     have H := HA.out
     clear HA
     simp only [honeycomblaw07_whole.j1] at H
     by_cases c24 : (Int.tmod x25_1 2) = 0
     rotate_left
     ·
      rw [if_neg c24] at H
      have c24b0 : ((Int.tmod x25_1 2) == 0) = false := beq_eq_false_iff_ne.mpr c24
      have c24b1 : ((Int.tmod x25_1 2) != 0) = true := bne_iff_ne.mpr c24
      have H' := Aside0.mk H
      clear H
      go_wp2
      go_roundg kj12
      case measure => have := HK1.out; have := HJ12.out; omega
      case rel => exact ⟨(wrap64 (x25_1 + 1)), (x674001_12), (x674002_12), (x674003_1), (x674004_1), rs_, H', ⟨by have := HK1.out; have := HJ12.out; omega⟩, ⟨by (with_reducible repeat (first | apply Kd.R_alloc | apply Kd.R_drewN | apply Kd.R_drew)); exact Kd.R_mono HO_23.out (fun _ hk => trivial)⟩, ⟨bk_ BK673.out⟩, ⟨bk_ BK674.out⟩, ⟨by repeat (first | (with_reducible first | exact HB.out | apply ba_ | apply bn_ | apply bd_ | refine below_set ?_ GE673.out | refine below_set ?_ GE674.out | refine below_set ?_ GE679.out) | exact HB.out)⟩⟩
     rw [if_pos c24] at H
     have c24b0 : ((Int.tmod x25_1 2) == 0) = true := beq_iff_eq.mpr c24
     have c24b1 : ((Int.tmod x25_1 2) != 0) = false := bne_eq_false_iff_eq.mpr c24
     clear c24
     replace H := Option.bind_eq_some_iff.mp H
     obtain ⟨t681, A250, H⟩ := H
     replace H : (honeycomblaw07_whole.l0 kj12 t675 (t675.length : Int) (wrap64 (x25_1 + 1)) a0_0 x674001_12 x674002_12 (Go.bits .or .u64 x674003_1 t681) x674004_1) = some (r1, r2, r3, r4, r5) := H
     have A25 := Aside0.mk A250
     clear A250
     have H' := Aside0.mk H
     clear H
     try go_wp2
     replace HO_23 := Aside0.mk (Kd.R_drew HO_23.out)
     replace BK673 := Aside0.mk (blk_drew BK673.out)
     replace BK674 := Aside0.mk (blk_drew BK674.out)
     replace BK679 := Aside0.mk (blk_drew BK679.out)
     replace HB := Aside0.mk (below_drew1 HB.out)
     refine start_ (n := 9) (S := fun w' => w'.cell? ⟨gb673, 0, none⟩ = some (.int .i64 a0_0) ∧ w'.cell? ⟨gb673, 1, none⟩ = some (.int .u64 x674001_12) ∧ w'.cell? ⟨gb673, 2, none⟩ = some (.int .u64 x674002_12) ∧ w'.cell? ⟨gb673, 3, none⟩ = some (.int .u64 x674003_1) ∧ w'.cell? ⟨gb673, 4, none⟩ = some (.int .u64 x674004_1) ∧ w'.cell? ⟨gb679, 0, none⟩ = some (.int .i64 ((rd_T104 t675 x25_1).f0)) ∧ w'.cell? ⟨gb679, 1, none⟩ = some (.int .u8 ((rd_T104 t675 x25_1).f1))) (ds := [8]) (m_ 9 0) (by kernel_rfl) rfl rfl ⟨(blk_cell BK673.out 0).trans rfl, (blk_cell BK673.out 1).trans rfl, (blk_cell BK673.out 2).trans rfl, (blk_cell BK673.out 3).trans rfl, (blk_cell BK673.out 4).trans rfl, (blk_cell BK679.out 0).trans rfl, (blk_cell BK679.out 1).trans rfl⟩ (fun hHeld => ?_); refine with_tabW honeycomblaw07_whole.tab11 honeycomblaw07_whole.bits11 (fun HT_ HW_ => ?_)
     generalize wc.drew = w26 at HO_23 BK673 BK674 BK679 HB hHeld ⊢
     refine pq_ 0 (some 44) (m_ 9 1) (h := ?_)
     refine pq_ 1 (some 45) (m_ 9 3) (h := ?_)
     refine pq_ 6 (some 50) (m_ 9 67) (h := ?_)
     refine tq7_ 2 (some 46) (m_ 9 71) (h := ?_)
     refine tq7_ 3 (some 47) (m_ 9 79) (h := ?_)
     refine one_ (i := 4) (N := some 48) (m_ 9 95) rfl rfl (one_of HT_.out (by kernel_rfl)) (by decide) (fun K hK => ?_)
     refine goes_ Tryd.func59 (by kernel_rfl) rfl #[.agg #[.int .i64 ((rd_T104 t675 x25_1).f0), .int .u8 ((rd_T104 t675 x25_1).f1)]] (by rfl) rfl rfl ar_ ?_
     with_reducible refine (table_Rings.calls kj12 ((rd_T104 t675 x25_1).f0) ((rd_T104 t675 x25_1).f1) t681 _ A25.out).mono ?_
     rintro e w27 ⟨rfl, hb⟩
     refine ⟨_, rfl, ?_⟩
     replace HO_23 := Aside0.mk (Kd.R_below (kr_ HO_23.out) hb)
     replace BK673 := bb_ BK673.out hb
     replace BK674 := bb_ BK674.out hb
     replace BK679 := bb_ BK679.out hb
     replace HB := Aside0.mk (below_step (hg3_ GE673.out GE674.out GE679.out) hb)
     (try clear hb)
     (try clear hb2)
     (try clear hk)
     (try clear hi)
     refine hK.out _ _ ⟨(blk_cell BK673.out 0).trans rfl, (blk_cell BK673.out 1).trans rfl, (blk_cell BK673.out 2).trans rfl, (blk_cell BK673.out 3).trans rfl, (blk_cell BK673.out 4).trans rfl, (blk_cell BK679.out 0).trans rfl, (blk_cell BK679.out 1).trans rfl⟩ (fun hHeld => ?_)
     clear hK K
     refine norm_ (a' := ?_) ?_ ?_
     rotate_left
     ·
      show Act.put _ (some 48) _ = _
      simp only [puts_]
      rfl
     refine pq_ 5 (some 49) (m_ 9 127) (h := ?_)
     refine pq_ 7 (some 51) (m_ 9 255) (h := ?_)
     refine last_ (i := 8) (N := none) (m_ 9 511) rfl rfl (one_of HT_.out (by kernel_rfl)) (by decide) (fun K hK => ?_)
     have hs28 : w27.cell? ⟨gb673, 3, none⟩ = some (.int .u64 x674003_1) := (blk_cell BK673.out 3).trans rfl
     have hfs28 := blk_frozen BK673.out 3
     have hns28_1 := NB674_673.out
     have hns28_2 := NB679_673.out
     have hms28_1 := NB673_674.out
     have hms28_2 := NB673_679.out
     refine skip_ (w1 := ?_) (by rfl) rfl ?_ ?_
     rotate_left
     ·
      go_simp
      rfl
     refine hK.out _ _ ?_
     clear hK K
     refine done_ (done_of HT_.out (by kernel_rfl)) ?_
     try go_wp2
     go_roundg kj12
     case measure => have := HK1.out; have := HJ12.out; omega
     case rel => exact ⟨(wrap64 (x25_1 + 1)), (x674001_12), (x674002_12), (Go.bits .or .u64 x674003_1 t681), (x674004_1), rs_, H', ⟨by have := HK1.out; have := HJ12.out; omega⟩, ⟨by (with_reducible repeat (first | apply Kd.R_alloc | apply Kd.R_drewN | apply Kd.R_drew)); exact Kd.R_mono (Kd.R_far (p := ⟨gb673, 3, none⟩) (Kd.R_types HO_23.out BK673.out (by decide)) (fun _ hk => hk.2) (.int .u64 (Go.bits .or .u64 x674003_1 t681))) (fun _ hk => trivial)⟩, ⟨by (with_reducible repeat (first | apply bN_ | apply bD_ | apply bA_)); refine blk_put (cs := #[.int .i64 a0_0, .int .u64 x674001_12, .int .u64 x674002_12, .int .u64 x674003_1, .int .u64 x674004_1]) ?_ 3 _ rfl; (with_reducible repeat (first | apply bN_ | apply bD_ | apply bA_)); exact BK673.out⟩, ⟨by (with_reducible repeat (first | apply bN_ | apply bD_ | apply bA_)); refine blk_far ?_ NB674_673.out _; (with_reducible repeat (first | apply bN_ | apply bD_ | apply bA_)); exact BK674.out⟩, ⟨by repeat (first | (with_reducible first | exact HB.out | apply ba_ | apply bn_ | apply bd_ | refine below_set ?_ GE673.out | refine below_set ?_ GE674.out | refine below_set ?_ GE679.out) | exact HB.out)⟩⟩
end H
end Go.Proofs.YtaeenefdbahfoaaDoor
namespace Go.Proofs
set_option linter.unusedSimpArgs false
set_option linter.unusedVariables false
open Go.Shelf
def Tryd.sortCell_ren : Go.Shelf.Ren := ⟨fun | 6 => 74 | 15 => 99 | 14 => 98 | 28 => 119 | 29 => 120 | 20 => 111 | 21 => 112 | 22 => 113 | 23 => 114 | 24 => 115 | 25 => 116 | 26 => 117 | 27 => 118 | 46 => 129 | 47 => 130 | 48 => 131 | 49 => 132 | 50 => 133 | 57 => 134 | n => n, fun | 22 => 34 | 24 => 65 | 25 => 125 | 3 => 3 | 39 => 158 | 0 => 0 | 53 => 186 | 55 => 22 | 4 => 4 | 46 => 180 | 45 => 179 | 50 => 93 | 5 => 5 | 9 => 9 | 66 => 204 | 70 => 208 | 76 => 210 | 77 => 91 | n => n, fun | n => n⟩
theorem Tryd.sortCell : Go.Proofs.SlLaysF0.n6 Tryd.prog Tryd.sortCell_ren := {
 mixed := by kernel_rfl
 f6 := ⟨Tryd.f74.name, by decide, Tryd.func74.trans (congrArg some (by kernel_rfl))⟩
 f14 := ⟨Tryd.f98.name, by decide, Tryd.func98.trans (congrArg some (by kernel_rfl))⟩
 f15 := Tryd.func99.trans (congrArg some (by kernel_rfl))
 f20 := ⟨Tryd.f111.name, by decide, Tryd.func111.trans (congrArg some (by kernel_rfl))⟩
 f21 := ⟨Tryd.f112.name, by decide, Tryd.func112.trans (congrArg some (by kernel_rfl))⟩
 f22 := ⟨Tryd.f113.name, by decide, Tryd.func113.trans (congrArg some (by kernel_rfl))⟩
 f23 := ⟨Tryd.f114.name, by decide, Tryd.func114.trans (congrArg some (by kernel_rfl))⟩
 f24 := ⟨Tryd.f115.name, by decide, Tryd.func115.trans (congrArg some (by kernel_rfl))⟩
 f25 := ⟨Tryd.f116.name, by decide, Tryd.func116.trans (congrArg some (by kernel_rfl))⟩
 f26 := ⟨Tryd.f117.name, by decide, Tryd.func117.trans (congrArg some (by kernel_rfl))⟩
 f27 := ⟨Tryd.f118.name, by decide, Tryd.func118.trans (congrArg some (by kernel_rfl))⟩
 f28 := Tryd.func119.trans (congrArg some (by kernel_rfl))
 f29 := Tryd.func120.trans (congrArg some (by kernel_rfl))
 f46 := ⟨Tryd.f129.name, by decide, Tryd.func129.trans (congrArg some (by kernel_rfl))⟩
 f47 := Tryd.func130.trans (congrArg some (by kernel_rfl))
 f48 := Tryd.func131.trans (congrArg some (by kernel_rfl))
 f49 := ⟨Tryd.f132.name, by decide, Tryd.func132.trans (congrArg some (by kernel_rfl))⟩
 f50 := ⟨Tryd.f133.name, by decide, Tryd.func133.trans (congrArg some (by kernel_rfl))⟩
 f57 := ⟨Tryd.f134.name, by decide, Tryd.func134.trans (congrArg some (by kernel_rfl))⟩
 t0 := Tryd.underlying0
 a0 := Tryd.isAgg0
 z0 := Tryd.sizeOf0
 v0 := Tryd.zeroValue0
 t3 := Tryd.underlying3
 a3 := Tryd.isAgg3
 z3 := Tryd.sizeOf3
 v3 := Tryd.zeroValue3
 t4 := Tryd.underlying4
 a4 := Tryd.isAgg4
 z4 := Tryd.sizeOf4
 v4 := Tryd.zeroValue4
 t5 := Tryd.underlying5
 a5 := Tryd.isAgg5
 z5 := Tryd.sizeOf5
 v5 := Tryd.zeroValue5
 t9 := Tryd.underlying9
 a9 := Tryd.isAgg9
 z9 := Tryd.sizeOf9
 v9 := Tryd.zeroValue9
 t22 := Tryd.underlying34
 a22 := Tryd.isAgg34
 z22 := Tryd.sizeOf34
 v22 := Tryd.zeroValue34
 t25 := Tryd.underlying125
 a25 := Tryd.isAgg125
 z25 := Tryd.sizeOf125
 v25 := Tryd.zeroValue125
 t39 := Tryd.underlying158
 a39 := Tryd.isAgg158
 z39 := Tryd.sizeOf158
 v39 := Tryd.zeroValue158
 t45 := Tryd.underlying179
 a45 := Tryd.isAgg179
 z45 := Tryd.sizeOf179
 v45 := Tryd.zeroValue179
 t46 := Tryd.underlying180
 a46 := Tryd.isAgg180
 z46 := Tryd.sizeOf180
 v46 := Tryd.zeroValue180
 t50 := Tryd.underlying93
 a50 := Tryd.isAgg93
 z50 := Tryd.sizeOf93
 v50 := Tryd.zeroValue93
 t53 := Tryd.underlying186
 a53 := Tryd.isAgg186
 z53 := Tryd.sizeOf186
 v53 := Tryd.zeroValue186
 t55 := Tryd.underlying22
 a55 := Tryd.isAgg22
 z55 := Tryd.sizeOf22
 v55 := Tryd.zeroValue22
 t66 := Tryd.underlying204
 a66 := Tryd.isAgg204
 z66 := Tryd.sizeOf204
 v66 := Tryd.zeroValue204
 t70 := Tryd.underlying208
 a70 := Tryd.isAgg208
 z70 := Tryd.sizeOf208
 v70 := Tryd.zeroValue208
 t76 := Tryd.underlying210
 a76 := Tryd.isAgg210
 z76 := Tryd.sizeOf210
 v76 := Tryd.zeroValue210
 t77 := Tryd.underlying91
 a77 := Tryd.isAgg91
 z77 := Tryd.sizeOf91
 v77 := Tryd.zeroValue91 }
end Go.Proofs
namespace Go.Proofs.YtaeenefdbahfoaaDoor
set_option linter.unusedSimpArgs false
set_option linter.unusedVariables false
set_option maxRecDepth 100000
set_option maxHeartbeats 16000000
section
open Go.RowKit Go.Proofs.YtaeenefdbahfoaaDoorW.PrintWords Go.Proofs.YtaeenefdbahfoaaDoorW.PrintLast Go.Proofs.YtaeenefdbahfoaaDoorW.PrintMore
open H
open Go.Shelf Go.Lib Go.Sort
theorem sort_any (w : World) (g cap : Nat) (xs : List S65) (h : Row3 w g cap xs.toArray) (hsz : xs.length < 4611686018427387904) :
    Calls Tryd.prog 74 #[.slice (some ⟨g, 0, none⟩) xs.length cap, .func (.func 75) #[] #[]] w fun e w' => e = .returned (.tuple #[]) ∧ Row3 w' g cap (sortCells xs).toArray ∧ w.grownBy w' (some g) := by
 have eg : ∀ args w, (callFunc 75 args).run Tryd.prog w = .ok (.enter 75 args) w := enters_of Tryd.func75 (by kernel_rfl) rfl
 have hcmp : CmpLays Tryd.prog 75 #[] encCell 3 cmpCell g 0 xs.toArray.size w := fun _ _ _ _ x y => compare_any x y _
 have hcon := AnyQ.slices_SortFunc_total Tryd.sortCell 3 Tryd.isAgg65 Tryd.sizeOf65 encCell (fun _ => rfl) (fun x v hv => by simp [encCell] at hv; rcases hv with rfl | rfl | rfl <;> rfl) cmpCell swo_cell 75 #[] g 0 cap xs.toArray w eg hcmp (holds_row h) h.lt (by simpa using hsz) tot_cell
 refine Calls.mono hcon ?_
 rintro e w' ⟨rfl, n, os, rfl⟩
 exact ⟨rfl, row_sorted h (by simp [List.length_mergeSort])⟩
theorem sort_none (w : World) (v : Value) : Calls Tryd.prog 74 #[.slice none 0 0, v] w fun e w' => e = .returned (.tuple #[]) ∧ w' = w :=
 AnyF.slices_SortFunc_none Tryd.sortCell none 0 v w
theorem grownBy_refl (w : World) (g : Nat) : w.grownBy w (some g) := ⟨rfl, rfl, rfl, Nat.le_refl _, fun _ _ _ => rfl⟩
theorem grownBy_set {w W : World} {g : Nat} (h : w.grownBy W (some g)) (o : Nat) (v : Value) : w.grownBy (W.setCell ⟨g, o, none⟩ v) (some g) :=
 ⟨h.os, h.tape, h.output, by simpa using h.size, fun k hk hne => (Below.heap_setCell W ⟨g, o, none⟩ v k (fun e => hne (by rw [e]))).trans (h.block k hk hne)⟩
theorem grownBy_drewN {w W : World} {g : Nat} (h : w.grownBy W (some g)) (n : Nat) : w.grownBy (W.drewN n) (some g) := ⟨h.os, h.tape, h.output, h.size, h.block⟩
theorem grownBy_sets {w : World} {g : Nat} : ∀ (vs : List Value) (o : Nat) (W : World), w.grownBy W (some g) → w.grownBy (W.setCells g o vs) (some g)
 | [], _, _, h => h
 | v :: r, o, _, h => grownBy_sets r (o + 1) _ (grownBy_set h o v)
section
variable {w : World} {g cap : Nat} {d : Array S65}
theorem Row3.set_out (h : Row3 w g cap d) (o : Nat) (ho : d.size * 3 ≤ o) (v : Value) : Row3 (w.setCell ⟨g, o, none⟩ v) g cap d := by
 obtain ⟨cur, hb, hs, hc⟩ := h.blk
 refine ⟨h.le, h.max, _, blk_set hb _ _, by simp [hs], fun j hj => ?_⟩
 obtain ⟨c0, c1, c2⟩ := hc j hj
 refine ⟨?_, ?_, ?_⟩ <;> (rw [Array.getElem?_setIfInBounds, if_neg (by omega)]; assumption)
theorem Row3.sets_out : ∀ (vs : List Value) (o : Nat) (w : World), Row3 w g cap d → d.size * 3 ≤ o → Row3 (w.setCells g o vs) g cap d
 | [], _, _, h, _ => h
 | v :: r, o, _, h, ho => Row3.sets_out r (o + 1) _ (h.set_out o ho v) (by omega)
theorem Row3.pre (h : Row3 w g cap d) (d' : Array S65) (hs : d'.size ≤ d.size) (hd : ∀ j, j < d'.size → d'[j]! = d[j]!) : Row3 w g cap d' := by
 obtain ⟨cur, hb, hcs, hc⟩ := h.blk
 exact ⟨Nat.le_trans hs h.le, h.max, cur, hb, hcs, fun j hj => by rw [hd j hj]; exact hc j (by omega)⟩
theorem Row3.drew (h : Row3 w g cap d) : Row3 w.drew g cap d := ⟨h.le, h.max, h.blk⟩
theorem Row3.drewN (h : Row3 w g cap d) (n : Nat) : Row3 (w.drewN n) g cap d := ⟨h.le, h.max, h.blk⟩
end
theorem clear_cells (w : World) (g cap : Nat) (d : Array S65) (h : Row3 w g cap d) (k : Nat) (hk : k < d.size) (ty : TypeId) (c : Nat) :
    (Builtin.clear_ #[34] ty #[.slice (some ⟨g, k * 3, none⟩) (d.size - k) c]).run Tryd.prog w = .ok (.tuple #[]) (w.setCells g (k * 3) (List.replicate ((d.size - k) * 3) (.int .i64 0))) := by
 have hle := h.le
 have hz : (Builtin.zeroCells #[Value.int .i64 0, .int .i64 0, .int .i64 0] (d.size - k)).toList = List.replicate ((d.size - k) * 3) (.int .i64 0) := by
  simp only [Builtin.zeroCells, Array.toList_map, Array.toList_range, List.size_toArray]
  apply List.ext_getElem
  ·simp
  ·intro i h1 h2
   have : i % 3 = 0 ∨ i % 3 = 1 ∨ i % 3 = 2 := by omega
   rcases this with e | e | e <;> simp [e]
 have hcell : ∀ j, j < d.size * 3 → (w.cell? ⟨g, j, none⟩).isSome = true := fun j hj => by
  obtain ⟨c0, c1, c2⟩ := h.cell (j / 3) (by omega)
  have : j = j / 3 * 3 ∨ j = j / 3 * 3 + 1 ∨ j = j / 3 * 3 + 2 := by omega
  rcases this with e | e | e <;> (rw [e]; simp [c0, c1, c2])
 have hst := run_storeCells_cells (P := Tryd.prog) g (k * 3) (List.replicate ((d.size - k) * 3) (.int .i64 0)) 0 w (fun j hj => hcell _ (by simp at hj; omega)) (fun j hj => h.frozen _) (by intro v hv; rw [List.eq_of_mem_replicate hv]; rfl)
 simp only [Nat.add_zero] at hst
 obtain ⟨m, hm⟩ : ∃ m, d.size - k = m + 1 := ⟨d.size - k - 1, by omega⟩
 rw [hm] at hz hst ⊢
 have hv : ∀ w, (zeroValue 65).run Tryd.prog w = .ok (.agg #[.int .i64 0, .int .i64 0, .int .i64 0]) w := Tryd.zeroValue65
 simp [Builtin.clear_, run_underlying Tryd.underlying34, hv, Value.cells, hz, hst]
theorem eqPt (d : Nat) (w : World) (x0 y0 : Int) (x1 y1 : Int) :
    (Op.equalIn (d + 2) 63 (.agg #[.int .i64 x0, .int .i64 x1]) (.agg #[.int .i64 y0, .int .i64 y1])).run Tryd.prog w = .ok (x0 == y0 && (x1 == y1)) w := by
 refine eqA_of Tryd.underlying63 (by kernel_rfl) ?_
 refine eqf_cons (by rfl) (by go_simp; rfl) (by go_simp; rfl) (by go_simp) ?_
 exact eqf_last (by rfl) (by go_simp; rfl) (by go_simp; rfl) (by go_simp)
theorem eqCell (d : Nat) (w : World) (x0 y0 : Int) (x1 y1 : Int) (x2 y2 : Int) :
    (Op.equalIn (d + 3) 65 (.agg #[.int .i64 x0, .int .i64 x1, .int .i64 x2]) (.agg #[.int .i64 y0, .int .i64 y1, .int .i64 y2])).run Tryd.prog w = .ok ((x0 == y0 && (x1 == y1)) && (x2 == y2)) w := by
 refine eqA_of Tryd.underlying65 (by kernel_rfl) ?_
 refine eqf_cons (by rfl) (by go_simp) (by go_simp) (eqPt (d + 0) w _ _ _ _) ?_
 exact eqf_last (by rfl) (by go_simp; rfl) (by go_simp; rfl) (by go_simp)
theorem eqCells (d : Nat) (w : World) (x y : S65) :
    (Op.equalIn (d + 3) 65 (.agg #[.int .i64 x.f0.f0, .int .i64 x.f0.f1, .int .i64 x.f1]) (.agg #[.int .i64 y.f0.f0, .int .i64 y.f0.f1, .int .i64 y.f1])).run Tryd.prog w = .ok (decide (x = y)) w := by
 rw [eqCell]
 congr 1
 obtain ⟨⟨a, b⟩, h⟩ := x
 obtain ⟨⟨c, d⟩, k⟩ := y
 rw [Bool.eq_iff_iff]
 simp [S65.mk.injEq, S63.mk.injEq]
attribute [local go_sem high] eqCells
theorem comp_all {d : Array S65} (h : ∀ j, j < d.size → keeps d j = true) : compactUpTo d d.size = d.toList := by
 rw [compactUpTo_all d _ h, range_map_get]
theorem compact_any (w : World) (g cap : Nat) (d : Array S65) (h : Row3 w g cap d) (hsz : d.size < 4611686018427387904) :
    Calls Tryd.prog 76 #[.slice (some ⟨g, 0, none⟩) d.size cap] w fun e w' => e = .returned (.slice (some ⟨g, 0, none⟩) (compactUpTo d d.size).length cap) ∧ Row3 w' g cap (compactUpTo d d.size).toArray ∧ w.grownBy w' (some g) := by
 have hle := h.le
 have hmx : cap ≤ 9223372036854775807 := h.max
 have HR := Aside0.mk h
 clear h
 by_cases h2 : d.size < 2
 ·go_enter Tryd.func76, Tryd.ntmps76
  go_wp2
  go_ret
  have e := comp_all (d := d) (fun j hj => keeps_lt_one d j (by omega))
  rw [e]
  exact ⟨by simp, HR.out, grownBy_refl _ _⟩
 ·go_enter Tryd.func76, Tryd.ntmps76
  go_wp2
  go_loopw [3] (fun s3 wr => ∃ k q : Nat, 1 ≤ k ∧ k ≤ d.size ∧ s3 = .int .i64 k ∧ wr = w.drewN q ∧ ∀ j, j < k → keeps d j = true) (fun s3 _ => d.size - (intOf s3).toNat)
  case atStart => exact ⟨1, 0, Nat.le_refl _, by omega, rfl, rfl, keeps_lt_one d⟩
  case round =>
   obtain ⟨k, q, hk1, hk, rfl, rfl, hall⟩ := hrel
   by_cases hlt : k < d.size
   ·have A := Aside0.mk hall
    clear hall
    obtain ⟨a0, a1, a2⟩ := HR.out.cell k hlt
    obtain ⟨km, hkm⟩ : ∃ km, km = k - 1 := ⟨_, rfl⟩
    have hkm' : km < d.size := by omega
    obtain ⟨b0, b1, b2⟩ := HR.out.cell km hkm'
    generalize hx : d[k]! = x at a0 a1 a2
    generalize hy : d[km]! = y at b0 b1 b2
    have B := Aside0.mk (And.intro hx hy)
    clear hx hy
    have hw : IntKind.i64.wrap ((k : Int) - 1) = (km : Int) := by rw [IntKind.wrap_i64]; omega
    have KM := Aside0.mk hkm
    clear hkm
    go_wp2_with fail
    go_quiet (fail)
    by_cases hdup : x = y
    ·have DUP := Aside0.mk hdup
     go_wp2_with fail
     clear a0 a1 a2 b0 b1 b2 hw
     go_loopw [3, 5] (fun s3 s5 wr => ∃ (kk k2 : Nat) (dk : Array S65), s3 = .int .i64 kk ∧ s5 = .int .i64 k2 ∧ 1 ≤ k2 ∧ k + k2 ≤ d.size ∧ CompInv d (k + k2) kk dk ∧ Row3 wr g cap dk ∧ w.grownBy wr (some g)) (fun _ s5 _ => d.size - (intOf s5).toNat)
     case atStart => exact ⟨k, 1, d, rfl, rfl, Nat.le_refl _, by omega, CompInv.start A.out (keeps_neg (by omega) (by rw [B.out.1, ← KM.out, B.out.2]; exact DUP.out)), HR.out.drewN _, grownBy_drewN (grownBy_refl _ _) _⟩
     case round =>
      obtain ⟨kk, k2, dk, rfl, rfl, h1, hle2, hI, hR, hG⟩ := hrel
      have hkk := hI.lt
      have hds := hI.size
      have I2 := Aside0.mk hI
      have R2 := Aside0.mk hR
      have G2 := Aside0.mk hG
      by_cases hlt2 : k + k2 < d.size
      ·obtain ⟨km2, hkm2⟩ : ∃ km, km = k2 - 1 := ⟨_, rfl⟩
       obtain ⟨a0, a1, a2⟩ := hR.cell (k + k2) (by omega)
       obtain ⟨b0, b1, b2⟩ := hR.cell (k + km2) (by omega)
       have f0 := hR.frozen
       have hkb : kk < d.size := by omega
       obtain ⟨c0, c1, c2⟩ := hR.cell kk (by omega)
       have hkm2' : km2 < d.size - k := by omega
       have hk2' : k2 < d.size - k := by omega
       have hw : IntKind.i64.wrap ((k2 : Int) - 1) = (km2 : Int) := by rw [IntKind.wrap_i64]; omega
       rw [hI.high (k + k2) (by omega), show (k + k2) * 3 = k * 3 + k2 * 3 by omega] at a0 a1 a2
       rw [hI.high (k + km2) (by omega), show (k + km2) * 3 = k * 3 + km2 * 3 by omega] at b0 b1 b2
       clear hI hR hG
       generalize hu : d[k + k2]! = u at a0 a1 a2
       generalize hv : d[k + km2]! = v at b0 b1 b2
       generalize dk[kk]! = old at c0 c1 c2
       have C := Aside0.mk (And.intro hu hv)
       have KM2 := Aside0.mk hkm2
       clear hu hv hkm2 hdup
       go_wp2_with fail
       go_quiet (fail)
       by_cases huv : u = v
       ·rw [show decide (u = v) = true from by simp [huv]]
        go_wp2_with fail
        go_roundw
        case rel => exact ⟨kk, k2 + 1, dk, rfl, by go_num, by omega, by omega, I2.out.skip (keeps_neg (by omega) (by rw [C.out.1, show k + k2 - 1 = k + km2 by have := KM2.out; omega, C.out.2]; exact huv)), R2.out.drewN _, grownBy_drewN G2.out _⟩
        case measure => simp [intOf]; omega
       ·rw [show decide (u = v) = false from by simp [huv]]
        go_wp2_with fail
        go_roundw
        case rel => exact ⟨kk + 1, k2 + 1, dk.setIfInBounds kk u, by go_num, by go_num, by omega, by omega, by have := I2.out.keep hlt2 (keeps_pos (by rw [C.out.1, show k + k2 - 1 = k + km2 by have := KM2.out; omega, C.out.2]; exact huv)); rwa [C.out.1] at this, (R2.out.drewN _).set kk (by omega) u, grownBy_set (grownBy_set (grownBy_set (grownBy_drewN G2.out _) _ _) _ _) _ _⟩
        case measure => simp [intOf]; omega
      ·have hend : k + k2 = d.size := by omega
       have hcl := fun ty c => clear_cells wr g cap dk R2.out kk (by omega) ty c
       rw [hds] at hcl
       clear hI hR hG hdup
       go_wp2
       go_ret
       have hI := I2.out
       rw [hend] at hI
       have hlen := hI.len
       refine ⟨by rw [hlen]; rfl, Row3.sets_out _ _ _ (R2.out.pre _ (by simp [hlen]; omega) (fun j hj => ?_)) (by simp [hlen]), grownBy_sets _ _ _ G2.out⟩
       have hj' : j < kk := by simpa [hlen] using hj
       have := hI.low j hj'
       rw [getElem!_def, List.getElem?_toArray, this]
    ·go_wp2
     go_roundw
     case rel =>
      refine ⟨k + 1, _, by omega, by omega, by go_num, rfl, fun j hj => ?_⟩
      by_cases e : j = k
      ·subst e
       exact keeps_pos (by rw [B.out.1, ← KM.out, B.out.2]; exact hdup)
      ·exact A.out j (by omega)
     case measure => simp [intOf]; omega
   ·have : k = d.size := by omega
    subst this
    go_wp2
    go_ret
    rw [comp_all hall]
    exact ⟨by simp, HR.out.drewN q, grownBy_drewN (grownBy_refl _ _) q⟩
end
open Go.RowKit Go.Proofs.YtaeenefdbahfoaaDoorW.PrintWords Go.Proofs.YtaeenefdbahfoaaDoorW.PrintLast Go.Proofs.YtaeenefdbahfoaaDoorW.PrintMore
open H
open Go.Shelf Go.Lib Go.Sort
theorem R_lit (w : World) : Kd.R k65 65 (w.alloc (.cells #[] 65)) w.heap.size (fun _ => True) (.slice (some ⟨w.heap.size, 0, none⟩) 0 0) [] :=
 R_of_row (xs := []) ⟨by simp, by unfold maxLen; omega, #[], blk_new w _, rfl, fun j hj => by simp at hj⟩ (Nat.le_refl _) trivial
theorem clone_any (A0 : Option Addr) (c0 : Nat) (l0 : List S65) (w : World) (hr0 : Kd.C k65 w A0 l0.length l0) (hl : l0.length < 5864062014805) :
    Calls Tryd.prog 73 #[.slice A0 l0.length c0] w fun e w' => ∃ v, e = .returned v ∧ Kd.R k65 65 w' w.heap.size (fun _ => True) v l0 ∧ Below w.heap.size w w' := by
 have hq := fun W n c => Lib.run_eql_slice_nil (P := Tryd.prog) W 34 65 A0 n c 0 0 Tryd.underlying34
 have HR := Aside0.mk hr0
 clear hr0
 cases A0 with
 | none =>
  have h0 : l0 = [] := by
   have h1 := HR.out.2.2
   rcases Nat.eq_zero_or_pos l0.length with h | h
   ·exact List.length_eq_zero_iff.1 h
   ·obtain ⟨ad, h2, _⟩ := h1 h
    cases h2
  simp only [Option.isNone_none] at hq
  go_enter Tryd.func73, Tryd.ntmps73
  go_wp2
  go_ret
  exact ⟨_, rfl, by rw [h0]; exact Kd.R_nil _ _ _ _ _, (by with_reducible repeat (first | apply below_alloc | apply pw_below_drewN | apply below_drew | refine bset ?_ _ _ (by omega) _ | exact Below.refl _ _))⟩
 | some ad =>
  simp only [Option.isNone_some] at hq
  have hR := R_lit w
  have HL := Aside0.mk hR
  clear hR
  go_enter Tryd.func73, Tryd.ntmps73
  go_wp2_with (at_builtin; refine appN k65 w.heap.size (.tmp 5) (.tmp 6) 34 65 (.agg #[.int .i64 0, .int .i64 0, .int .i64 0]) 24 (w0 := w) _ [] l0 (some ad) c0 rfl rfl Tryd.underlying34 info65 rfl (by decide) (by decide) rfl rfl (fun x cs h => by obtain rfl := k65_open h; exact k65_mkM _ _ _ _) HL.out (Kd.C_below HR.out (below_alloc2 (Below.refl _ _) (Nat.le_refl _) _)) (below_alloc2 (Below.refl _ _) (Nat.le_refl _) _) (by simp) (by simp; omega) ?_; intro v1 w4 ho4 hb4; have HO4 := Aside0.mk ho4; have HB4 := Aside0.mk hb4; clear ho4 hb4)
  go_ret
  exact ⟨_, rfl, by simpa using HO4.out, HB4.out⟩
def ofL (l : List S65) : List S65 := compactUpTo (sortCells l).toArray (sortCells l).toArray.size
theorem ofL_le (l : List S65) : (ofL l).length ≤ l.length := by
 unfold ofL compactUpTo
 rw [List.length_map]
 exact Nat.le_trans (List.length_filter_le _ _) (by simp [sortCells, List.length_mergeSort])
theorem ofL_nil : ofL [] = [] := by simp [ofL, sortCells, compactUpTo]
def XOf.f (l : List S65) : Option (List S65) := if l.length < 5864062014805 then some (ofL l) else none
theorem compact_none (w : World) : Calls Tryd.prog 76 #[.slice none 0 0] w fun e w' => e = .returned (.slice none 0 0) ∧ w' = w := by
 go_enter Tryd.func76, Tryd.ntmps76
 go_wp2
 go_ret
 exact ⟨rfl, rfl⟩
theorem XOf.calls (A0 : Option Addr) (c0 : Nat) (l0 : List S65) (r : List S65) (w : World) (hr0 : Kd.C k65 w A0 l0.length l0) (_hc0 : l0.length ≤ c0) (h : XOf.f l0 = some r) :
    Calls Tryd.prog 37 #[.slice A0 l0.length c0] w fun e w' => ∃ v0_ : Value, e = .returned (v0_) ∧ Kd.R k65 65 w' w.heap.size (fun _ => True) v0_ r ∧ Below w.heap.size w w' := by
 have hl : l0.length < 5864062014805 := by
  by_cases h1 : l0.length < 5864062014805
  ·exact h1
  ·simp [XOf.f, h1] at h
 have hr : r = ofL l0 := by simpa [XOf.f, hl] using h.symm
 subst hr
 clear h
 have HR := Aside0.mk hr0
 clear hr0
 generalize hX : ofL l0 = X
 have HX := Aside0.mk hX
 clear hX
 go_enter Tryd.func37, Tryd.ntmps37
 go_wp2_with fail
 refine (clone_any A0 c0 l0 w HR.out hl).mono ?_
 rintro e w1 ⟨v, rfl, hO, hb1⟩
 rcases row_of_R hO with ⟨rfl, h0⟩ | ⟨g, cap, rfl, hg, _, hrow⟩
 ·have HB1 := Aside0.mk hb1
  clear hb1 hO
  go_wp2_with (first
   | (go_at_call 74; refine (sort_none _ _).mono ?_; rintro e w2 ⟨rfl, rfl⟩)
   | (go_at_call 76; refine (compact_none _).mono ?_; rintro e w3 ⟨rfl, rfl⟩))
  go_ret
  exact ⟨_, rfl, by rw [← HX.out, h0, ofL_nil]; exact Kd.R_nil _ _ _ _ _, HB1.out⟩
 ·have HB1 := Aside0.mk hb1
  have R1 := Aside0.mk hrow
  clear hb1 hO hrow
  have hsl : (sortCells l0).length = l0.length := List.length_mergeSort _
  have hsort := fun W hW => sort_any W g cap l0 hW (by omega)
  have hcomp : ∀ W, Row3 W g cap (sortCells l0).toArray → Calls Tryd.prog 76 #[.slice (some ⟨g, 0, none⟩) l0.length cap] W fun e w' => e = .returned (.slice (some ⟨g, 0, none⟩) (ofL l0).length cap) ∧ Row3 w' g cap (ofL l0).toArray ∧ W.grownBy w' (some g) := fun W hW => by
   have := compact_any W g cap _ hW (by simp [hsl]; omega)
   change Calls _ _ _ _ fun e w' => e = .returned (.slice (some ⟨g, 0, none⟩) (ofL l0).length cap) ∧ Row3 w' g cap (ofL l0).toArray ∧ W.grownBy w' (some g) at this
   rwa [show (sortCells l0).toArray.size = l0.length by simp [hsl]] at this
  rw [HX.out] at hcomp
  go_wp2_with (first
   | (go_at_call 74; refine (hsort _ R1.out).mono ?_; rintro e w5 ⟨rfl, hr5, hgr5⟩; have R6 := Aside0.mk hr5; have GR5 := Aside0.mk hgr5; clear hr5 hgr5)
   | (go_at_call 76; refine (hcomp _ R6.out).mono ?_; rintro e w6 ⟨rfl, hr6, hgr6⟩; have R7 := Aside0.mk hr6; have GR6 := Aside0.mk hgr6; clear hr6 hgr6))
  have hz := HB1.out.size
  have hB36 : Below w.heap.size w w6 := pw_below_grown (pw_below_grown HB1.out _ (by omega) GR5.out (fun k hk => by cases hk; exact hg)) _ (Nat.le_trans (by omega) GR5.out.size) GR6.out (fun k hk => by cases hk; exact hg)
  have HB36 := Aside0.mk hB36
  clear hB36
  go_ret
  exact ⟨_, rfl, R_of_row R7.out hg trivial, HB36.out⟩
def XClone.f (l : List S65) : Option (List S65) := if l.length < 5864062014805 then some l else none
theorem XClone.calls (A0 : Option Addr) (c0 : Nat) (l0 : List S65) (r : List S65) (w : World) (hr0 : Kd.C k65 w A0 l0.length l0) (_hc0 : l0.length ≤ c0) (h : XClone.f l0 = some r) :
    Calls Tryd.prog 73 #[.slice A0 l0.length c0] w fun e w' => ∃ v0_ : Value, e = .returned (v0_) ∧ Kd.R k65 65 w' w.heap.size (fun _ => True) v0_ r ∧ Below w.heap.size w w' := by
 unfold XClone.f at h
 by_cases hl : l0.length < 5864062014805
 ·rw [if_pos hl] at h
  obtain rfl := Option.some.inj h
  exact clone_any A0 c0 l0 w hr0 hl
 ·rw [if_neg hl] at h
  cases h
end Go.Proofs.YtaeenefdbahfoaaDoor
