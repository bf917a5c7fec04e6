/- table.Classes: all thirteen. -/
import Derived.Test.YtaeenefdbahfoaaDoorH0
import Derived.Test.YtaeenefdbahfoaaDoorL0
import Derived.Laws.RangeString
namespace Go.Proofs.YtaeenefdbahfoaaDoor
open Go.RowKit Go.Proofs.YtaeenefdbahfoaaDoorW.PrintWords Go.Proofs.YtaeenefdbahfoaaDoorW.PrintLast Go.Proofs.YtaeenefdbahfoaaDoorW.PrintMore
open H
open Go.RowKit
set_option linter.unusedSimpArgs false

def ompS : ByteArray := ⟨#[111, 109, 112]⟩
def ompC : Nat → Int
  | 0 => 111 | 1 => 109 | _ => 112
def setB (W : World) (g : Nat) (o : Obj) : World := { W with heap := W.heap.setIfInBounds g o }
theorem omp_next (W : World) (g pos : Nat) (ty : TypeId) (hp : pos < 3) (h : W.heap[g]? = some (.stringIter ompS pos)) :
    (Instr.next (.pointer (some ⟨g, 0, none⟩)) true ty).run Tryd.prog W = .ok (.tuple #[.bool true, .int .i64 pos, .int .i32 (ompC pos)]) (setB W g (.stringIter ompS (pos + 1))) := by
  have hd : Utf8.decode ompS pos = ((ompC pos).toNat, 1) := by
    have : pos = 0 ∨ pos = 1 ∨ pos = 2 := by omega
    rcases this with rfl | rfl | rfl <;> decide +kernel
  have hs : pos < ompS.size := hp
  have hc : (((ompC pos).toNat : Nat) : Int) = ompC pos := by
    unfold ompC
    split <;> rfl
  simp [Instr.next, getObj, setObj, Sem.run_bind, Sem.run, h, Result.andThen, hs, hd, goInt, hc, setB]
theorem omp_end (W : World) (g : Nat) (ty : TypeId) (h : W.heap[g]? = some (.stringIter ompS 3)) :
    (Instr.next (.pointer (some ⟨g, 0, none⟩)) true ty).run Tryd.prog W = .ok (.tuple #[.bool false]) W := by
  have hs : ¬ 3 < ompS.size := by decide
  simp [Instr.next, getObj, Sem.run, h, hs]
theorem omp_range (W : World) : (Instr.range 9 (.string ⟨#[111, 109, 112]⟩)).run Tryd.prog W = .ok (.pointer (some ⟨W.heap.size, 0, none⟩)) (W.alloc (.stringIter ompS 0)) := by
  have := run_range_string (P := Tryd.prog) W 9 ompS Tryd.underlying9
  exact this
theorem setB_same {W : World} {g : Nat} {o o' : Obj} (h : W.heap[g]? = some o) : (setB W g o').heap[g]? = some o' := by
  have := (Array.getElem?_eq_some_iff.1 h).1
  simp [setB, this]
theorem setB_below {B : Nat} {a W : World} {g : Nat} {o : Obj} (h : Below B a W) (hg : B ≤ g) : Below B a (setB W g o) := by
  obtain ⟨h1, h2, h3, h4, h5⟩ := h
  refine ⟨h1, h2, h3, by simpa [setB] using h4, fun k hk => ?_⟩
  rw [← h5 k hk]
  show (W.heap.setIfInBounds g o)[k]? = _
  rw [Array.getElem?_setIfInBounds_ne (by omega)]
theorem setB_R {W : World} {g base : Nat} {o : Obj} {v : Value} {xs : List S104} (h : Kd.R k104 104 W base (fun k => k ≠ g) v xs) : Kd.R k104 104 (setB W g o) base (fun k => k ≠ g) v xs :=
  Kd.R_move h fun k hk => by
    show (W.heap.setIfInBounds g o)[k]? = _
    rw [Array.getElem?_setIfInBounds_ne (by omega)]
theorem infoCl : (Tryd.prog.info? 104).map (fun i => (i.zero, i.size, i.bytes)) = some (some (.agg #[.int .i64 0, .int .u8 0]), 2, 16) := by kernel_rfl
theorem iterPos_of {W : World} {g : Nat} {s : ByteArray} {p : Nat} (h : W.heap[g]? = some (.stringIter s p)) : W.iterPos g = p := by
  unfold World.iterPos
  rw [h]
def ompL (n : Int) : List S104 := [⟨n, 111⟩, ⟨n, 109⟩, ⟨n, 112⟩]
def clsL : Nat → List S104
  | 0 => []
  | 1 => [⟨0, 0⟩]
  | 2 => [⟨0, 0⟩, ⟨1, 0⟩]
  | 3 => [⟨0, 0⟩, ⟨1, 0⟩] ++ ompL 2
  | 4 => [⟨0, 0⟩, ⟨1, 0⟩] ++ ompL 2 ++ ompL 3
  | 5 => [⟨0, 0⟩, ⟨1, 0⟩] ++ ompL 2 ++ ompL 3 ++ ompL 4
  | 6 => [⟨0, 0⟩, ⟨1, 0⟩] ++ ompL 2 ++ ompL 3 ++ ompL 4 ++ [⟨5, 0⟩]
  | _ => [⟨0, 0⟩, ⟨1, 0⟩] ++ ompL 2 ++ ompL 3 ++ ompL 4 ++ [⟨5, 0⟩] ++ [⟨6, 0⟩]
theorem clsL_le (n : Nat) : (clsL n).length ≤ 20 := by
  unfold clsL ompL
  split <;> simp

set_option maxRecDepth 100000 in
set_option maxHeartbeats 4000000 in
theorem classes_any (w : World) : Calls Tryd.prog 78 #[] w fun e w' => ∃ v, e = .returned v ∧ Kd.R k104 104 w' w.heap.size (fun _ => True) v (clsL 7) ∧ Below w.heap.size w w' := by
  have hrg := omp_range
  have h0 : clsL 0 = [] := rfl
  have H0 := Aside0.mk h0
  clear h0
  go_enter Tryd.func78, Tryd.ntmps78
  go_wp2_with fail
  go_loopw [5, 1] (fun i v wr => ∃ n : Nat, n ≤ 7 ∧ i = .int .i64 n ∧ Kd.R k104 104 wr w.heap.size (fun _ => True) v (clsL n) ∧ Below w.heap.size w wr) (fun i _ _ => 7 - (intOf i).toNat)
  case atStart => exact ⟨0, by omega, rfl, Kd.R_nil _ _ _ _ _, Below.refl _ _⟩
  case round =>
    obtain ⟨n, hn, rfl, hO, hb⟩ := hrel
    have HO := Aside0.mk hO
    have HB := Aside0.mk hb
    have hzr := hb.size
    clear hO hb
    have hnn : n = 0 ∨ n = 1 ∨ n = 2 ∨ n = 3 ∨ n = 4 ∨ n = 5 ∨ n = 6 ∨ n = 7 := by omega
    rcases hnn with rfl | rfl | rfl | rfl | rfl | rfl | rfl | rfl
    · have hcl : clsL 1 = clsL 0 ++ [⟨0, 0⟩] := rfl
      have HCL := Aside0.mk hcl
      have hle := clsL_le 0
      clear hcl
      go_wp2_with (at_builtin; refine Kd.R_append k104 (w0 := w) w.heap.size rfl (.tmp 14) (.tmp 17) 127 104 (.agg #[.int .i64 0, .int .u8 0]) 16 rfl Tryd.underlying127 infoCl rfl (by decide) (by decide) _ (clsL 0) (⟨0, 0⟩) [.int .i64 0, .int .u8 0] (fun _ => True) (fun _ => False) rfl (by first | (simp; done) | rfl) (k104_mkM _ _ _ _) (fun _ h => h.elim) (fun _ _ => trivial) HO.out HB.out hzr (by omega) ?_; intro v1 w1 ho1 hb1 hg1 _; have HO1 := Aside0.mk ho1; have HB1 := Aside0.mk hb1; have HG1 := Aside0.mk hg1; clear ho1 hb1 hg1)
      go_roundw
      case rel => exact ⟨1, by omega, by first | rfl | go_num, by rw [HCL.out]; exact HO1.out, HB1.out⟩
      case measure => simp [intOf]
    · have hcl : clsL 2 = clsL 1 ++ [⟨1, 0⟩] := rfl
      have HCL := Aside0.mk hcl
      have hle := clsL_le 1
      clear hcl
      go_wp2_with (at_builtin; refine Kd.R_append k104 (w0 := w) w.heap.size rfl (.tmp 14) (.tmp 17) 127 104 (.agg #[.int .i64 0, .int .u8 0]) 16 rfl Tryd.underlying127 infoCl rfl (by decide) (by decide) _ (clsL 1) (⟨1, 0⟩) [.int .i64 1, .int .u8 0] (fun _ => True) (fun _ => False) rfl (by first | (simp; done) | rfl) (k104_mkM _ _ _ _) (fun _ h => h.elim) (fun _ _ => trivial) HO.out HB.out hzr (by omega) ?_; intro v1 w1 ho1 hb1 hg1 _; have HO1 := Aside0.mk ho1; have HB1 := Aside0.mk hb1; have HG1 := Aside0.mk hg1; clear ho1 hb1 hg1)
      go_roundw
      case rel => exact ⟨2, by omega, by first | rfl | go_num, by rw [HCL.out]; exact HO1.out, HB1.out⟩
      case measure => simp [intOf]
    · have hcl : clsL 3 = clsL 2 ++ ompL 2 := rfl
      have HCL := Aside0.mk hcl
      have hle := clsL_le 2
      clear hcl
      go_wp2_with fail
      obtain ⟨wI, hwI⟩ : ∃ W, W = wr.alloc (.stringIter ompS 0) := ⟨_, rfl⟩
      have hi0 : wI.heap[wr.heap.size]? = some (.stringIter ompS 0) := by rw [hwI]; exact blk_new _ _
      have hBI : Below wr.heap.size wr wI := by rw [hwI]; exact below_alloc (Below.refl _ _) _
      have hOI : Kd.R k104 104 wI w.heap.size (fun k => k ≠ wr.heap.size) _ (clsL 2) := Kd.R_mono (Kd.R_below (Kd.R_bound HO.out) hBI) (fun k hk => by have := hk.2.2.1; omega)
      rw [← hwI]
      obtain ⟨g, hg⟩ : ∃ g, g = wr.heap.size := ⟨_, rfl⟩
      rw [← hg] at hi0 hOI ⊢
      have hgw : w.heap.size ≤ g := by omega
      have HBI := Aside0.mk (HB.out.trans (hBI.mono hzr))
      clear hwI hBI hg HO HB
      try rw [show ((2 : Nat) : Int) = 2 from rfl]
      go_loopw [1] (fun v wr => ∃ pos : Nat, pos ≤ 3 ∧ Kd.R k104 104 wr w.heap.size (fun k => k ≠ g) v (clsL 2 ++ (ompL 2).take pos) ∧ wr.heap[g]? = some (.stringIter ompS pos) ∧ Below w.heap.size w wr) (fun _ wr => 3 - wr.iterPos g)
      case atStart => exact ⟨0, by omega, by simpa using hOI, hi0, HBI.out⟩
      case round =>
        obtain ⟨pos, hpos, hO, hi, hb⟩ := hrel
        have HO := Aside0.mk hO
        have HI := Aside0.mk hi
        have HB := Aside0.mk hb
        clear hO hi hb hOI hi0 HBI
        have hpp : pos = 0 ∨ pos = 1 ∨ pos = 2 ∨ pos = 3 := by omega
        rcases hpp with rfl | rfl | rfl | rfl
        · have hnx := fun ty => omp_next wr g 0 ty (by omega) HI.out
          have hlt := blk_lt HI.out
          obtain ⟨w2, hw2⟩ : ∃ W, W = setB wr g (.stringIter ompS (0 + 1)) := ⟨_, rfl⟩
          rw [← hw2] at hnx
          have hI2 : w2.heap[g]? = some (.stringIter ompS 1) := by rw [hw2]; exact setB_same HI.out
          have hO2 := setB_R (o := .stringIter ompS (0 + 1)) HO.out
          rw [← hw2] at hO2
          have hB2 : Below w.heap.size w w2 := by rw [hw2]; exact setB_below HB.out hgw
          have hl2 : g < w2.heap.size := blk_lt hI2
          have HI2 := Aside0.mk hI2
          have HO2 := Aside0.mk hO2
          have HB2 := Aside0.mk hB2
          have hoc : ompC 0 = 111 := rfl
          rw [hoc] at hnx
          have hwr8 : IntKind.u8.wrap 111 = 111 := by decide
          clear hw2 hI2 hO2 hB2 hoc
          go_wp2_with (at_builtin; refine Kd.R_append k104 (w0 := w) w.heap.size rfl (.tmp 23) (.tmp 28) 127 104 (.agg #[.int .i64 0, .int .u8 0]) 16 rfl Tryd.underlying127 infoCl rfl (by decide) (by decide) _ (clsL 2 ++ (ompL 2).take 0) (⟨2, 111⟩) [.int .i64 2, .int .u8 111] (fun k => k ≠ g) (fun _ => False) rfl (by first | (simp; done) | rfl) (k104_mkM _ _ _ _) (fun _ h => h.elim) (fun k hk => by show k ≠ g; omega) HO2.out HB2.out HB2.out.size (by simp [ompL]; omega) ?_; intro v1 w1 ho1 hb1 hg1 _; have HO1 := Aside0.mk ho1; have HB1 := Aside0.mk hb1; have HG1 := Aside0.mk hg1; clear ho1 hb1 hg1)
          clear hnx
          have hz1 : w2.heap.size ≤ w1.heap.size := HG1.out.size
          go_roundw
          case rel => exact ⟨1, by omega, by simpa only [ompL, List.take_succ_cons, List.take_zero, List.append_assoc, List.cons_append, List.nil_append, List.append_nil] using HO1.out, (HG1.out.block g hl2 (Kd.R_away HO2.out (fun _ h => h))).trans HI2.out, HB1.out⟩
          case measure =>
            have hp1 := iterPos_of ((HG1.out.block g hl2 (Kd.R_away HO2.out (fun _ h => h))).trans HI2.out)
            have hp0 := iterPos_of HI.out
            simp only [hp1, hp0]
            omega
        · have hnx := fun ty => omp_next wr g 1 ty (by omega) HI.out
          have hlt := blk_lt HI.out
          obtain ⟨w2, hw2⟩ : ∃ W, W = setB wr g (.stringIter ompS (1 + 1)) := ⟨_, rfl⟩
          rw [← hw2] at hnx
          have hI2 : w2.heap[g]? = some (.stringIter ompS 2) := by rw [hw2]; exact setB_same HI.out
          have hO2 := setB_R (o := .stringIter ompS (1 + 1)) HO.out
          rw [← hw2] at hO2
          have hB2 : Below w.heap.size w w2 := by rw [hw2]; exact setB_below HB.out hgw
          have hl2 : g < w2.heap.size := blk_lt hI2
          have HI2 := Aside0.mk hI2
          have HO2 := Aside0.mk hO2
          have HB2 := Aside0.mk hB2
          have hoc : ompC 1 = 109 := rfl
          rw [hoc] at hnx
          have hwr8 : IntKind.u8.wrap 109 = 109 := by decide
          clear hw2 hI2 hO2 hB2 hoc
          go_wp2_with (at_builtin; refine Kd.R_append k104 (w0 := w) w.heap.size rfl (.tmp 23) (.tmp 28) 127 104 (.agg #[.int .i64 0, .int .u8 0]) 16 rfl Tryd.underlying127 infoCl rfl (by decide) (by decide) _ (clsL 2 ++ (ompL 2).take 1) (⟨2, 109⟩) [.int .i64 2, .int .u8 109] (fun k => k ≠ g) (fun _ => False) rfl (by first | (simp; done) | rfl) (k104_mkM _ _ _ _) (fun _ h => h.elim) (fun k hk => by show k ≠ g; omega) HO2.out HB2.out HB2.out.size (by simp [ompL]; omega) ?_; intro v1 w1 ho1 hb1 hg1 _; have HO1 := Aside0.mk ho1; have HB1 := Aside0.mk hb1; have HG1 := Aside0.mk hg1; clear ho1 hb1 hg1)
          clear hnx
          have hz1 : w2.heap.size ≤ w1.heap.size := HG1.out.size
          go_roundw
          case rel => exact ⟨2, by omega, by simpa only [ompL, List.take_succ_cons, List.take_zero, List.append_assoc, List.cons_append, List.nil_append, List.append_nil] using HO1.out, (HG1.out.block g hl2 (Kd.R_away HO2.out (fun _ h => h))).trans HI2.out, HB1.out⟩
          case measure =>
            have hp1 := iterPos_of ((HG1.out.block g hl2 (Kd.R_away HO2.out (fun _ h => h))).trans HI2.out)
            have hp0 := iterPos_of HI.out
            simp only [hp1, hp0]
            omega
        · have hnx := fun ty => omp_next wr g 2 ty (by omega) HI.out
          have hlt := blk_lt HI.out
          obtain ⟨w2, hw2⟩ : ∃ W, W = setB wr g (.stringIter ompS (2 + 1)) := ⟨_, rfl⟩
          rw [← hw2] at hnx
          have hI2 : w2.heap[g]? = some (.stringIter ompS 3) := by rw [hw2]; exact setB_same HI.out
          have hO2 := setB_R (o := .stringIter ompS (2 + 1)) HO.out
          rw [← hw2] at hO2
          have hB2 : Below w.heap.size w w2 := by rw [hw2]; exact setB_below HB.out hgw
          have hl2 : g < w2.heap.size := blk_lt hI2
          have HI2 := Aside0.mk hI2
          have HO2 := Aside0.mk hO2
          have HB2 := Aside0.mk hB2
          have hoc : ompC 2 = 112 := rfl
          rw [hoc] at hnx
          have hwr8 : IntKind.u8.wrap 112 = 112 := by decide
          clear hw2 hI2 hO2 hB2 hoc
          go_wp2_with (at_builtin; refine Kd.R_append k104 (w0 := w) w.heap.size rfl (.tmp 23) (.tmp 28) 127 104 (.agg #[.int .i64 0, .int .u8 0]) 16 rfl Tryd.underlying127 infoCl rfl (by decide) (by decide) _ (clsL 2 ++ (ompL 2).take 2) (⟨2, 112⟩) [.int .i64 2, .int .u8 112] (fun k => k ≠ g) (fun _ => False) rfl (by first | (simp; done) | rfl) (k104_mkM _ _ _ _) (fun _ h => h.elim) (fun k hk => by show k ≠ g; omega) HO2.out HB2.out HB2.out.size (by simp [ompL]; omega) ?_; intro v1 w1 ho1 hb1 hg1 _; have HO1 := Aside0.mk ho1; have HB1 := Aside0.mk hb1; have HG1 := Aside0.mk hg1; clear ho1 hb1 hg1)
          clear hnx
          have hz1 : w2.heap.size ≤ w1.heap.size := HG1.out.size
          go_roundw
          case rel => exact ⟨3, by omega, by simpa only [ompL, List.take_succ_cons, List.take_zero, List.append_assoc, List.cons_append, List.nil_append, List.append_nil] using HO1.out, (HG1.out.block g hl2 (Kd.R_away HO2.out (fun _ h => h))).trans HI2.out, HB1.out⟩
          case measure =>
            have hp1 := iterPos_of ((HG1.out.block g hl2 (Kd.R_away HO2.out (fun _ h => h))).trans HI2.out)
            have hp0 := iterPos_of HI.out
            simp only [hp1, hp0]
            omega
        · have hnx := fun ty => omp_end wr g ty HI.out
          go_wp2
          go_roundw
          case rel => exact ⟨3, by omega, by first | rfl | go_num, by rw [HCL.out]; exact Kd.R_mono HO.out (fun _ _ => trivial), HB.out⟩
          case measure => simp [intOf]
    · have hcl : clsL 4 = clsL 3 ++ ompL 3 := rfl
      have HCL := Aside0.mk hcl
      have hle := clsL_le 3
      clear hcl
      go_wp2_with fail
      obtain ⟨wI, hwI⟩ : ∃ W, W = wr.alloc (.stringIter ompS 0) := ⟨_, rfl⟩
      have hi0 : wI.heap[wr.heap.size]? = some (.stringIter ompS 0) := by rw [hwI]; exact blk_new _ _
      have hBI : Below wr.heap.size wr wI := by rw [hwI]; exact below_alloc (Below.refl _ _) _
      have hOI : Kd.R k104 104 wI w.heap.size (fun k => k ≠ wr.heap.size) _ (clsL 3) := Kd.R_mono (Kd.R_below (Kd.R_bound HO.out) hBI) (fun k hk => by have := hk.2.2.1; omega)
      rw [← hwI]
      obtain ⟨g, hg⟩ : ∃ g, g = wr.heap.size := ⟨_, rfl⟩
      rw [← hg] at hi0 hOI ⊢
      have hgw : w.heap.size ≤ g := by omega
      have HBI := Aside0.mk (HB.out.trans (hBI.mono hzr))
      clear hwI hBI hg HO HB
      try rw [show ((3 : Nat) : Int) = 3 from rfl]
      go_loopw [1] (fun v wr => ∃ pos : Nat, pos ≤ 3 ∧ Kd.R k104 104 wr w.heap.size (fun k => k ≠ g) v (clsL 3 ++ (ompL 3).take pos) ∧ wr.heap[g]? = some (.stringIter ompS pos) ∧ Below w.heap.size w wr) (fun _ wr => 3 - wr.iterPos g)
      case atStart => exact ⟨0, by omega, by simpa using hOI, hi0, HBI.out⟩
      case round =>
        obtain ⟨pos, hpos, hO, hi, hb⟩ := hrel
        have HO := Aside0.mk hO
        have HI := Aside0.mk hi
        have HB := Aside0.mk hb
        clear hO hi hb hOI hi0 HBI
        have hpp : pos = 0 ∨ pos = 1 ∨ pos = 2 ∨ pos = 3 := by omega
        rcases hpp with rfl | rfl | rfl | rfl
        · have hnx := fun ty => omp_next wr g 0 ty (by omega) HI.out
          have hlt := blk_lt HI.out
          obtain ⟨w2, hw2⟩ : ∃ W, W = setB wr g (.stringIter ompS (0 + 1)) := ⟨_, rfl⟩
          rw [← hw2] at hnx
          have hI2 : w2.heap[g]? = some (.stringIter ompS 1) := by rw [hw2]; exact setB_same HI.out
          have hO2 := setB_R (o := .stringIter ompS (0 + 1)) HO.out
          rw [← hw2] at hO2
          have hB2 : Below w.heap.size w w2 := by rw [hw2]; exact setB_below HB.out hgw
          have hl2 : g < w2.heap.size := blk_lt hI2
          have HI2 := Aside0.mk hI2
          have HO2 := Aside0.mk hO2
          have HB2 := Aside0.mk hB2
          have hoc : ompC 0 = 111 := rfl
          rw [hoc] at hnx
          have hwr8 : IntKind.u8.wrap 111 = 111 := by decide
          clear hw2 hI2 hO2 hB2 hoc
          go_wp2_with (at_builtin; refine Kd.R_append k104 (w0 := w) w.heap.size rfl (.tmp 23) (.tmp 28) 127 104 (.agg #[.int .i64 0, .int .u8 0]) 16 rfl Tryd.underlying127 infoCl rfl (by decide) (by decide) _ (clsL 3 ++ (ompL 3).take 0) (⟨3, 111⟩) [.int .i64 3, .int .u8 111] (fun k => k ≠ g) (fun _ => False) rfl (by first | (simp; done) | rfl) (k104_mkM _ _ _ _) (fun _ h => h.elim) (fun k hk => by show k ≠ g; omega) HO2.out HB2.out HB2.out.size (by simp [ompL]; omega) ?_; intro v1 w1 ho1 hb1 hg1 _; have HO1 := Aside0.mk ho1; have HB1 := Aside0.mk hb1; have HG1 := Aside0.mk hg1; clear ho1 hb1 hg1)
          clear hnx
          have hz1 : w2.heap.size ≤ w1.heap.size := HG1.out.size
          go_roundw
          case rel => exact ⟨1, by omega, by simpa only [ompL, List.take_succ_cons, List.take_zero, List.append_assoc, List.cons_append, List.nil_append, List.append_nil] using HO1.out, (HG1.out.block g hl2 (Kd.R_away HO2.out (fun _ h => h))).trans HI2.out, HB1.out⟩
          case measure =>
            have hp1 := iterPos_of ((HG1.out.block g hl2 (Kd.R_away HO2.out (fun _ h => h))).trans HI2.out)
            have hp0 := iterPos_of HI.out
            simp only [hp1, hp0]
            omega
        · have hnx := fun ty => omp_next wr g 1 ty (by omega) HI.out
          have hlt := blk_lt HI.out
          obtain ⟨w2, hw2⟩ : ∃ W, W = setB wr g (.stringIter ompS (1 + 1)) := ⟨_, rfl⟩
          rw [← hw2] at hnx
          have hI2 : w2.heap[g]? = some (.stringIter ompS 2) := by rw [hw2]; exact setB_same HI.out
          have hO2 := setB_R (o := .stringIter ompS (1 + 1)) HO.out
          rw [← hw2] at hO2
          have hB2 : Below w.heap.size w w2 := by rw [hw2]; exact setB_below HB.out hgw
          have hl2 : g < w2.heap.size := blk_lt hI2
          have HI2 := Aside0.mk hI2
          have HO2 := Aside0.mk hO2
          have HB2 := Aside0.mk hB2
          have hoc : ompC 1 = 109 := rfl
          rw [hoc] at hnx
          have hwr8 : IntKind.u8.wrap 109 = 109 := by decide
          clear hw2 hI2 hO2 hB2 hoc
          go_wp2_with (at_builtin; refine Kd.R_append k104 (w0 := w) w.heap.size rfl (.tmp 23) (.tmp 28) 127 104 (.agg #[.int .i64 0, .int .u8 0]) 16 rfl Tryd.underlying127 infoCl rfl (by decide) (by decide) _ (clsL 3 ++ (ompL 3).take 1) (⟨3, 109⟩) [.int .i64 3, .int .u8 109] (fun k => k ≠ g) (fun _ => False) rfl (by first | (simp; done) | rfl) (k104_mkM _ _ _ _) (fun _ h => h.elim) (fun k hk => by show k ≠ g; omega) HO2.out HB2.out HB2.out.size (by simp [ompL]; omega) ?_; intro v1 w1 ho1 hb1 hg1 _; have HO1 := Aside0.mk ho1; have HB1 := Aside0.mk hb1; have HG1 := Aside0.mk hg1; clear ho1 hb1 hg1)
          clear hnx
          have hz1 : w2.heap.size ≤ w1.heap.size := HG1.out.size
          go_roundw
          case rel => exact ⟨2, by omega, by simpa only [ompL, List.take_succ_cons, List.take_zero, List.append_assoc, List.cons_append, List.nil_append, List.append_nil] using HO1.out, (HG1.out.block g hl2 (Kd.R_away HO2.out (fun _ h => h))).trans HI2.out, HB1.out⟩
          case measure =>
            have hp1 := iterPos_of ((HG1.out.block g hl2 (Kd.R_away HO2.out (fun _ h => h))).trans HI2.out)
            have hp0 := iterPos_of HI.out
            simp only [hp1, hp0]
            omega
        · have hnx := fun ty => omp_next wr g 2 ty (by omega) HI.out
          have hlt := blk_lt HI.out
          obtain ⟨w2, hw2⟩ : ∃ W, W = setB wr g (.stringIter ompS (2 + 1)) := ⟨_, rfl⟩
          rw [← hw2] at hnx
          have hI2 : w2.heap[g]? = some (.stringIter ompS 3) := by rw [hw2]; exact setB_same HI.out
          have hO2 := setB_R (o := .stringIter ompS (2 + 1)) HO.out
          rw [← hw2] at hO2
          have hB2 : Below w.heap.size w w2 := by rw [hw2]; exact setB_below HB.out hgw
          have hl2 : g < w2.heap.size := blk_lt hI2
          have HI2 := Aside0.mk hI2
          have HO2 := Aside0.mk hO2
          have HB2 := Aside0.mk hB2
          have hoc : ompC 2 = 112 := rfl
          rw [hoc] at hnx
          have hwr8 : IntKind.u8.wrap 112 = 112 := by decide
          clear hw2 hI2 hO2 hB2 hoc
          go_wp2_with (at_builtin; refine Kd.R_append k104 (w0 := w) w.heap.size rfl (.tmp 23) (.tmp 28) 127 104 (.agg #[.int .i64 0, .int .u8 0]) 16 rfl Tryd.underlying127 infoCl rfl (by decide) (by decide) _ (clsL 3 ++ (ompL 3).take 2) (⟨3, 112⟩) [.int .i64 3, .int .u8 112] (fun k => k ≠ g) (fun _ => False) rfl (by first | (simp; done) | rfl) (k104_mkM _ _ _ _) (fun _ h => h.elim) (fun k hk => by show k ≠ g; omega) HO2.out HB2.out HB2.out.size (by simp [ompL]; omega) ?_; intro v1 w1 ho1 hb1 hg1 _; have HO1 := Aside0.mk ho1; have HB1 := Aside0.mk hb1; have HG1 := Aside0.mk hg1; clear ho1 hb1 hg1)
          clear hnx
          have hz1 : w2.heap.size ≤ w1.heap.size := HG1.out.size
          go_roundw
          case rel => exact ⟨3, by omega, by simpa only [ompL, List.take_succ_cons, List.take_zero, List.append_assoc, List.cons_append, List.nil_append, List.append_nil] using HO1.out, (HG1.out.block g hl2 (Kd.R_away HO2.out (fun _ h => h))).trans HI2.out, HB1.out⟩
          case measure =>
            have hp1 := iterPos_of ((HG1.out.block g hl2 (Kd.R_away HO2.out (fun _ h => h))).trans HI2.out)
            have hp0 := iterPos_of HI.out
            simp only [hp1, hp0]
            omega
        · have hnx := fun ty => omp_end wr g ty HI.out
          go_wp2
          go_roundw
          case rel => exact ⟨4, by omega, by first | rfl | go_num, by rw [HCL.out]; exact Kd.R_mono HO.out (fun _ _ => trivial), HB.out⟩
          case measure => simp [intOf]
    · have hcl : clsL 5 = clsL 4 ++ ompL 4 := rfl
      have HCL := Aside0.mk hcl
      have hle := clsL_le 4
      clear hcl
      go_wp2_with fail
      obtain ⟨wI, hwI⟩ : ∃ W, W = wr.alloc (.stringIter ompS 0) := ⟨_, rfl⟩
      have hi0 : wI.heap[wr.heap.size]? = some (.stringIter ompS 0) := by rw [hwI]; exact blk_new _ _
      have hBI : Below wr.heap.size wr wI := by rw [hwI]; exact below_alloc (Below.refl _ _) _
      have hOI : Kd.R k104 104 wI w.heap.size (fun k => k ≠ wr.heap.size) _ (clsL 4) := Kd.R_mono (Kd.R_below (Kd.R_bound HO.out) hBI) (fun k hk => by have := hk.2.2.1; omega)
      rw [← hwI]
      obtain ⟨g, hg⟩ : ∃ g, g = wr.heap.size := ⟨_, rfl⟩
      rw [← hg] at hi0 hOI ⊢
      have hgw : w.heap.size ≤ g := by omega
      have HBI := Aside0.mk (HB.out.trans (hBI.mono hzr))
      clear hwI hBI hg HO HB
      try rw [show ((4 : Nat) : Int) = 4 from rfl]
      go_loopw [1] (fun v wr => ∃ pos : Nat, pos ≤ 3 ∧ Kd.R k104 104 wr w.heap.size (fun k => k ≠ g) v (clsL 4 ++ (ompL 4).take pos) ∧ wr.heap[g]? = some (.stringIter ompS pos) ∧ Below w.heap.size w wr) (fun _ wr => 3 - wr.iterPos g)
      case atStart => exact ⟨0, by omega, by simpa using hOI, hi0, HBI.out⟩
      case round =>
        obtain ⟨pos, hpos, hO, hi, hb⟩ := hrel
        have HO := Aside0.mk hO
        have HI := Aside0.mk hi
        have HB := Aside0.mk hb
        clear hO hi hb hOI hi0 HBI
        have hpp : pos = 0 ∨ pos = 1 ∨ pos = 2 ∨ pos = 3 := by omega
        rcases hpp with rfl | rfl | rfl | rfl
        · have hnx := fun ty => omp_next wr g 0 ty (by omega) HI.out
          have hlt := blk_lt HI.out
          obtain ⟨w2, hw2⟩ : ∃ W, W = setB wr g (.stringIter ompS (0 + 1)) := ⟨_, rfl⟩
          rw [← hw2] at hnx
          have hI2 : w2.heap[g]? = some (.stringIter ompS 1) := by rw [hw2]; exact setB_same HI.out
          have hO2 := setB_R (o := .stringIter ompS (0 + 1)) HO.out
          rw [← hw2] at hO2
          have hB2 : Below w.heap.size w w2 := by rw [hw2]; exact setB_below HB.out hgw
          have hl2 : g < w2.heap.size := blk_lt hI2
          have HI2 := Aside0.mk hI2
          have HO2 := Aside0.mk hO2
          have HB2 := Aside0.mk hB2
          have hoc : ompC 0 = 111 := rfl
          rw [hoc] at hnx
          have hwr8 : IntKind.u8.wrap 111 = 111 := by decide
          clear hw2 hI2 hO2 hB2 hoc
          go_wp2_with (at_builtin; refine Kd.R_append k104 (w0 := w) w.heap.size rfl (.tmp 23) (.tmp 28) 127 104 (.agg #[.int .i64 0, .int .u8 0]) 16 rfl Tryd.underlying127 infoCl rfl (by decide) (by decide) _ (clsL 4 ++ (ompL 4).take 0) (⟨4, 111⟩) [.int .i64 4, .int .u8 111] (fun k => k ≠ g) (fun _ => False) rfl (by first | (simp; done) | rfl) (k104_mkM _ _ _ _) (fun _ h => h.elim) (fun k hk => by show k ≠ g; omega) HO2.out HB2.out HB2.out.size (by simp [ompL]; omega) ?_; intro v1 w1 ho1 hb1 hg1 _; have HO1 := Aside0.mk ho1; have HB1 := Aside0.mk hb1; have HG1 := Aside0.mk hg1; clear ho1 hb1 hg1)
          clear hnx
          have hz1 : w2.heap.size ≤ w1.heap.size := HG1.out.size
          go_roundw
          case rel => exact ⟨1, by omega, by simpa only [ompL, List.take_succ_cons, List.take_zero, List.append_assoc, List.cons_append, List.nil_append, List.append_nil] using HO1.out, (HG1.out.block g hl2 (Kd.R_away HO2.out (fun _ h => h))).trans HI2.out, HB1.out⟩
          case measure =>
            have hp1 := iterPos_of ((HG1.out.block g hl2 (Kd.R_away HO2.out (fun _ h => h))).trans HI2.out)
            have hp0 := iterPos_of HI.out
            simp only [hp1, hp0]
            omega
        · have hnx := fun ty => omp_next wr g 1 ty (by omega) HI.out
          have hlt := blk_lt HI.out
          obtain ⟨w2, hw2⟩ : ∃ W, W = setB wr g (.stringIter ompS (1 + 1)) := ⟨_, rfl⟩
          rw [← hw2] at hnx
          have hI2 : w2.heap[g]? = some (.stringIter ompS 2) := by rw [hw2]; exact setB_same HI.out
          have hO2 := setB_R (o := .stringIter ompS (1 + 1)) HO.out
          rw [← hw2] at hO2
          have hB2 : Below w.heap.size w w2 := by rw [hw2]; exact setB_below HB.out hgw
          have hl2 : g < w2.heap.size := blk_lt hI2
          have HI2 := Aside0.mk hI2
          have HO2 := Aside0.mk hO2
          have HB2 := Aside0.mk hB2
          have hoc : ompC 1 = 109 := rfl
          rw [hoc] at hnx
          have hwr8 : IntKind.u8.wrap 109 = 109 := by decide
          clear hw2 hI2 hO2 hB2 hoc
          go_wp2_with (at_builtin; refine Kd.R_append k104 (w0 := w) w.heap.size rfl (.tmp 23) (.tmp 28) 127 104 (.agg #[.int .i64 0, .int .u8 0]) 16 rfl Tryd.underlying127 infoCl rfl (by decide) (by decide) _ (clsL 4 ++ (ompL 4).take 1) (⟨4, 109⟩) [.int .i64 4, .int .u8 109] (fun k => k ≠ g) (fun _ => False) rfl (by first | (simp; done) | rfl) (k104_mkM _ _ _ _) (fun _ h => h.elim) (fun k hk => by show k ≠ g; omega) HO2.out HB2.out HB2.out.size (by simp [ompL]; omega) ?_; intro v1 w1 ho1 hb1 hg1 _; have HO1 := Aside0.mk ho1; have HB1 := Aside0.mk hb1; have HG1 := Aside0.mk hg1; clear ho1 hb1 hg1)
          clear hnx
          have hz1 : w2.heap.size ≤ w1.heap.size := HG1.out.size
          go_roundw
          case rel => exact ⟨2, by omega, by simpa only [ompL, List.take_succ_cons, List.take_zero, List.append_assoc, List.cons_append, List.nil_append, List.append_nil] using HO1.out, (HG1.out.block g hl2 (Kd.R_away HO2.out (fun _ h => h))).trans HI2.out, HB1.out⟩
          case measure =>
            have hp1 := iterPos_of ((HG1.out.block g hl2 (Kd.R_away HO2.out (fun _ h => h))).trans HI2.out)
            have hp0 := iterPos_of HI.out
            simp only [hp1, hp0]
            omega
        · have hnx := fun ty => omp_next wr g 2 ty (by omega) HI.out
          have hlt := blk_lt HI.out
          obtain ⟨w2, hw2⟩ : ∃ W, W = setB wr g (.stringIter ompS (2 + 1)) := ⟨_, rfl⟩
          rw [← hw2] at hnx
          have hI2 : w2.heap[g]? = some (.stringIter ompS 3) := by rw [hw2]; exact setB_same HI.out
          have hO2 := setB_R (o := .stringIter ompS (2 + 1)) HO.out
          rw [← hw2] at hO2
          have hB2 : Below w.heap.size w w2 := by rw [hw2]; exact setB_below HB.out hgw
          have hl2 : g < w2.heap.size := blk_lt hI2
          have HI2 := Aside0.mk hI2
          have HO2 := Aside0.mk hO2
          have HB2 := Aside0.mk hB2
          have hoc : ompC 2 = 112 := rfl
          rw [hoc] at hnx
          have hwr8 : IntKind.u8.wrap 112 = 112 := by decide
          clear hw2 hI2 hO2 hB2 hoc
          go_wp2_with (at_builtin; refine Kd.R_append k104 (w0 := w) w.heap.size rfl (.tmp 23) (.tmp 28) 127 104 (.agg #[.int .i64 0, .int .u8 0]) 16 rfl Tryd.underlying127 infoCl rfl (by decide) (by decide) _ (clsL 4 ++ (ompL 4).take 2) (⟨4, 112⟩) [.int .i64 4, .int .u8 112] (fun k => k ≠ g) (fun _ => False) rfl (by first | (simp; done) | rfl) (k104_mkM _ _ _ _) (fun _ h => h.elim) (fun k hk => by show k ≠ g; omega) HO2.out HB2.out HB2.out.size (by simp [ompL]; omega) ?_; intro v1 w1 ho1 hb1 hg1 _; have HO1 := Aside0.mk ho1; have HB1 := Aside0.mk hb1; have HG1 := Aside0.mk hg1; clear ho1 hb1 hg1)
          clear hnx
          have hz1 : w2.heap.size ≤ w1.heap.size := HG1.out.size
          go_roundw
          case rel => exact ⟨3, by omega, by simpa only [ompL, List.take_succ_cons, List.take_zero, List.append_assoc, List.cons_append, List.nil_append, List.append_nil] using HO1.out, (HG1.out.block g hl2 (Kd.R_away HO2.out (fun _ h => h))).trans HI2.out, HB1.out⟩
          case measure =>
            have hp1 := iterPos_of ((HG1.out.block g hl2 (Kd.R_away HO2.out (fun _ h => h))).trans HI2.out)
            have hp0 := iterPos_of HI.out
            simp only [hp1, hp0]
            omega
        · have hnx := fun ty => omp_end wr g ty HI.out
          go_wp2
          go_roundw
          case rel => exact ⟨5, by omega, by first | rfl | go_num, by rw [HCL.out]; exact Kd.R_mono HO.out (fun _ _ => trivial), HB.out⟩
          case measure => simp [intOf]
    · have hcl : clsL 6 = clsL 5 ++ [⟨5, 0⟩] := rfl
      have HCL := Aside0.mk hcl
      have hle := clsL_le 5
      clear hcl
      go_wp2_with (at_builtin; refine Kd.R_append k104 (w0 := w) w.heap.size rfl (.tmp 14) (.tmp 17) 127 104 (.agg #[.int .i64 0, .int .u8 0]) 16 rfl Tryd.underlying127 infoCl rfl (by decide) (by decide) _ (clsL 5) (⟨5, 0⟩) [.int .i64 5, .int .u8 0] (fun _ => True) (fun _ => False) rfl (by first | (simp; done) | rfl) (k104_mkM _ _ _ _) (fun _ h => h.elim) (fun _ _ => trivial) HO.out HB.out hzr (by omega) ?_; intro v1 w1 ho1 hb1 hg1 _; have HO1 := Aside0.mk ho1; have HB1 := Aside0.mk hb1; have HG1 := Aside0.mk hg1; clear ho1 hb1 hg1)
      go_roundw
      case rel => exact ⟨6, by omega, by first | rfl | go_num, by rw [HCL.out]; exact HO1.out, HB1.out⟩
      case measure => simp [intOf]
    · have hcl : clsL 7 = clsL 6 ++ [⟨6, 0⟩] := rfl
      have HCL := Aside0.mk hcl
      have hle := clsL_le 6
      clear hcl
      go_wp2_with (at_builtin; refine Kd.R_append k104 (w0 := w) w.heap.size rfl (.tmp 14) (.tmp 17) 127 104 (.agg #[.int .i64 0, .int .u8 0]) 16 rfl Tryd.underlying127 infoCl rfl (by decide) (by decide) _ (clsL 6) (⟨6, 0⟩) [.int .i64 6, .int .u8 0] (fun _ => True) (fun _ => False) rfl (by first | (simp; done) | rfl) (k104_mkM _ _ _ _) (fun _ h => h.elim) (fun _ _ => trivial) HO.out HB.out hzr (by omega) ?_; intro v1 w1 ho1 hb1 hg1 _; have HO1 := Aside0.mk ho1; have HB1 := Aside0.mk hb1; have HG1 := Aside0.mk hg1; clear ho1 hb1 hg1)
      go_roundw
      case rel => exact ⟨7, by omega, by first | rfl | go_num, by rw [HCL.out]; exact HO1.out, HB1.out⟩
      case measure => simp [intOf]
    · go_wp2
      go_ret
      exact ⟨_, rfl, HO.out, HB.out⟩
def XClasses.f : Option (List S104) := some (clsL 7)
theorem XClasses.calls (r : List S104) (w : World) (h : XClasses.f = some r) :
    Calls Tryd.prog 78 #[] w fun e w' => ∃ v0_ : Value, e = .returned (v0_) ∧ Kd.R k104 104 w' w.heap.size (fun _ => True) v0_ r ∧ Below w.heap.size w w' := by
  obtain rfl := Option.some.inj h
  exact classes_any w
end Go.Proofs.YtaeenefdbahfoaaDoor
