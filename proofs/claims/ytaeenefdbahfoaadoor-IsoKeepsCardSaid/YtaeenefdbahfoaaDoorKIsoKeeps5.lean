/- Parts of the proof (IsoKeeps), merged out of our texts by wip/tools/pack.py: XStep, HflatSteps, XSome3, HLaw4, Hhoneycomblaw08Few, Plus, App2, Each, Shift0, PSteps, Hhoneycombref05bit, Hhoneycombref05Next, PNext5, HRef4, PRefS, HRef3, PNearA, XRNear, Hhoneycombref08neighbourhood, PRStep, PComm, XPattern, PWitA. -/
import Derived.Test.YtaeenefdbahfoaaDoorKIsoKeeps4
import Derived.Test.YtaeenefdbahfoaaDoorKIsoKeeps2
import Derived.Test.YtaeenefdbahfoaaDoorKIsoKeeps1
import Derived.Test.YtaeenefdbahfoaaDoorKIsoKeeps3
import Derived.BigRegion
namespace Go.Proofs.YtaeenefdbahfoaaDoor
open Go.RowKit Go.Proofs.YtaeenefdbahfoaaDoorW.PrintWords Go.Proofs.YtaeenefdbahfoaaDoorW.PrintLast Go.Proofs.YtaeenefdbahfoaaDoorW.PrintMore
open H
open Go.Shelf Go.RowKit Go.Lib Go.Sort
open Go.ChangeMaps Go.MapKept Go.WideShapes
set_option linter.unusedSimpArgs false
abbrev TB (l b0 b1 s0 s1 : Int) : Obj := .cells #[.int .i64 l, .int .u64 b0, .int .u64 b1, .int .u64 s0, .int .u64 s1] 29 (0, 0)
abbrev S5t (g : Nat) (l b0 b1 s0 s1 : Int) (W : World) : Prop := W.cell? ⟨g, 0, none⟩ = some (.int .i64 l) ∧ W.cell? ⟨g, 1, none⟩ = some (.int .u64 b0) ∧ W.cell? ⟨g, 2, none⟩ = some (.int .u64 b1) ∧ W.cell? ⟨g, 3, none⟩ = some (.int .u64 s0) ∧ W.cell? ⟨g, 4, none⟩ = some (.int .u64 s1)
theorem S5t.of {W : World} {g : Nat} {l b0 b1 s0 s1 : Int} (h : W.heap[g]? = some (TB l b0 b1 s0 s1)) : S5t g l b0 b1 s0 s1 W := ⟨blk_cell h 0, blk_cell h 1, blk_cell h 2, blk_cell h 3, blk_cell h 4⟩
/-- how many are still to come -/
def leftN (w : World) (b r : Nat) : Nat := match w.heap[b]?, w.heap[r]? with
  | some (.map es _), some (.mapIter _ _ seen _) => (leftOf es seen).size
  | _, _ => 0
theorem RangeAt.left {P : Program} {k : TypeId} {w : World} {b r : Nat} {l todo : List (Value × Value)} (h : RangeAt P k w b r l todo) : leftN w b r = todo.length := by
  obtain ⟨es, clock, since, seen, c0, hb, _, _, _, hr, _, _, _, hp⟩ := h
  unfold leftN
  rw [hb, hr]
  have := hp.length_eq
  simpa using this
/-- a cell that may be, and those beside it -/
def okC (l : Int) (c : CL) : Bool := (checkR l c.f0.f0 c.f0.f1 c.f1 == none) && (besL l c).all fun d => decide (goodP d.f0.f0 d.f0.f1)
end Go.Proofs.YtaeenefdbahfoaaDoor
namespace Go.Proofs.YtaeenefdbahfoaaDoor
set_option linter.unusedSimpArgs false
set_option linter.unusedVariables false
open Go.RowKit Go.Proofs.YtaeenefdbahfoaaDoorW.PrintWords Go.Proofs.YtaeenefdbahfoaaDoorW.PrintLast Go.Proofs.YtaeenefdbahfoaaDoorW.PrintMore
open H
open Go.RowKit
theorem u64N (n : Nat) (h : n < 18446744073709551616) : IntKind.u64.wrap (n : Int) = n := by
  have : IntKind.u64.wrap (n : Int) = (n : Int) % 18446744073709551616 := by simp [IntKind.wrap, IntKind.signed, IntKind.bits]
  rw [this]
  omega
theorem ofIntN (n : Nat) (h : n < 18446744073709551616) : (BitVec.ofInt 64 (n : Int)).toNat = n := by
  rw [BitVec.toNat_ofInt]
  omega
theorem andN (a c : Nat) (ha : a < 18446744073709551616) (hc : c < 18446744073709551616) : Go.bits .and .u64 (a : Int) (c : Int) = ((a &&& c : Nat) : Int) := by
  have key : (BitVec.ofInt 64 (a : Int) &&& BitVec.ofInt 64 (c : Int)).toNat = a &&& c := by rw [BitVec.toNat_and, ofIntN a ha, ofIntN c hc]
  show IntKind.u64.wrap ((BitVec.ofInt 64 (a : Int) &&& BitVec.ofInt 64 (c : Int)).toNat : Nat) = _
  rw [key]
  exact u64N _ (Nat.lt_of_le_of_lt Nat.and_le_left ha)
theorem orN (a c : Nat) (ha : a < 18446744073709551616) (hc : c < 18446744073709551616) : Go.bits .or .u64 (a : Int) (c : Int) = ((a ||| c : Nat) : Int) := by
  have key : (BitVec.ofInt 64 (a : Int) ||| BitVec.ofInt 64 (c : Int)).toNat = a ||| c := by rw [BitVec.toNat_or, ofIntN a ha, ofIntN c hc]
  show IntKind.u64.wrap ((BitVec.ofInt 64 (a : Int) ||| BitVec.ofInt 64 (c : Int)).toNat : Nat) = _
  rw [key]
  exact u64N _ (Nat.or_lt_two_pow (n := 64) ha hc)
theorem badN (B S m1 m2 o : Nat) (hB : B < 18446744073709551616) (hS : S < 18446744073709551616) (ho : o < 18446744073709551616) (h1 : m1 &&& (o ||| 1) = 0) (h2 : m2 &&& o = 0) : badH ((B &&& m1 : Nat) : Int) ((S &&& m2 : Nat) : Int) (o : Int) = false := by
  unfold badH
  have e := orN o 1 ho (by decide)
  rw [show ((1 : Nat) : Int) = 1 from rfl] at e
  rw [e, andN _ _ (Nat.lt_of_le_of_lt Nat.and_le_left hB) (Nat.or_lt_two_pow (n := 64) ho (by decide)), andN _ _ (Nat.lt_of_le_of_lt Nat.and_le_left hS) ho, Nat.and_assoc, Nat.and_assoc, h1, h2]
  simp
theorem badZ (o : Int) (ho : o = 18446744073709551615) : badH 0 0 o = false := by subst ho; decide +kernel
theorem even_and (B m : Nat) (h : m % 2 = 0) : (B &&& m) % 2 = 0 := by
  have := Nat.and_mod_two_pow (a := B) (b := m) (n := 1)
  simp only [Nat.pow_one] at this
  rw [this, h, Nat.and_zero]
/-- a table as the law makes it: the numbers, and that it may be -/
def Tb (L : Int) (b0 b1 s0 s1 : Nat) : Prop := (1 ≤ L ∧ L ≤ 3) ∧ checkT L b0 b1 s0 s1 = none ∧ b0 % 2 = 0 ∧ b1 % 2 = 0 ∧ b0 < 18446744073709551616 ∧ b1 < 18446744073709551616 ∧ s0 < 18446744073709551616 ∧ s1 < 18446744073709551616 ∧ (L = 1 → b1 = 0 ∧ s1 = 0)
theorem some_rule (l : Int) (B B1 S S1 : Nat) (hB : B < 18446744073709551616) (hB1 : B1 < 18446744073709551616) (hS : S < 18446744073709551616) (hS1 : S1 < 18446744073709551616) :
    ∃ (L : Int) (b0 b1 s0 s1 : Nat), XSome5.f l B B1 S S1 = some (L, (b0 : Int), (b1 : Int), (s0 : Int), (s1 : Int)) ∧ Tb L b0 b1 s0 s1 := by
  have hL : latT l = 1 ∨ latT l = 2 ∨ latT l = 3 := by unfold latT; omega
  have lt := fun (a b : Nat) (h : a < 18446744073709551616) => Nat.lt_of_le_of_lt (Nat.and_le_left (n := a) (m := b)) h
  unfold XSome5.f
  rcases hL with hL | hL | hL <;> rw [hL]
  · have e1 : andM B (bornT 1) = ((B &&& 18446744073709551614 : Nat) : Int) := andN B 18446744073709551614 hB (by decide)
    have e2 : andM S (maskT 1) = ((S &&& 18446744073709551615 : Nat) : Int) := andN S 18446744073709551615 hS (by decide)
    have h0' : badH ((B &&& 18446744073709551614 : Nat) : Int) ((S &&& 18446744073709551615 : Nat) : Int) (restT 1) = false := badN B S 18446744073709551614 18446744073709551615 0 hB hS (by decide) (by decide +kernel) (by decide +kernel)
    refine ⟨1, B &&& 18446744073709551614, 0, S &&& 18446744073709551615, 0, ?_, ⟨by decide, by decide⟩, ?_, even_and _ _ rfl, rfl, lt _ _ hB, by decide, lt _ _ hS, by decide, fun _ => ⟨rfl, rfl⟩⟩
    · rw [e1, e2, if_pos rfl, if_pos rfl]; rfl
    · unfold checkT
      rw [if_pos (by decide), if_neg (by rw [h0', show ((0 : Nat) : Int) = 0 from rfl, badZ (outT 1) rfl]; decide)]
  · have e1 : andM B (bornT 2) = ((B &&& 14 : Nat) : Int) := andN B 14 hB (by decide)
    have e1' : andM B1 (bornT 2) = ((B1 &&& 14 : Nat) : Int) := andN B1 14 hB1 (by decide)
    have e2 : andM S (maskT 2) = ((S &&& 15 : Nat) : Int) := andN S 15 hS (by decide)
    have e2' : andM S1 (maskT 2) = ((S1 &&& 15 : Nat) : Int) := andN S1 15 hS1 (by decide)
    have h0 : badH ((B &&& 14 : Nat) : Int) ((S &&& 15 : Nat) : Int) (restT 2) = false := badN B S 14 15 18446744073709551600 hB hS (by decide) (by decide +kernel) (by decide +kernel)
    have h0' : badH ((B1 &&& 14 : Nat) : Int) ((S1 &&& 15 : Nat) : Int) (outT 2) = false := badN B1 S1 14 15 18446744073709551600 hB1 hS1 (by decide) (by decide +kernel) (by decide +kernel)
    refine ⟨2, B &&& 14, B1 &&& 14, S &&& 15, S1 &&& 15, ?_, ⟨by decide, by decide⟩, ?_, even_and _ _ rfl, even_and _ _ rfl, lt _ _ hB, lt _ _ hB1, lt _ _ hS, lt _ _ hS1, fun h => absurd h (by decide)⟩
    · rw [if_neg (by decide), if_neg (by decide), e1, e1', e2, e2']
    · unfold checkT
      rw [if_pos (by decide), if_neg (by rw [h0, h0']; decide)]
  · have e1 : andM B (bornT 3) = ((B &&& 8190 : Nat) : Int) := andN B 8190 hB (by decide)
    have e1' : andM B1 (bornT 3) = ((B1 &&& 8190 : Nat) : Int) := andN B1 8190 hB1 (by decide)
    have e2 : andM S (maskT 3) = ((S &&& 8191 : Nat) : Int) := andN S 8191 hS (by decide)
    have e2' : andM S1 (maskT 3) = ((S1 &&& 8191 : Nat) : Int) := andN S1 8191 hS1 (by decide)
    have h0 : badH ((B &&& 8190 : Nat) : Int) ((S &&& 8191 : Nat) : Int) (restT 3) = false := badN B S 8190 8191 18446744073709543424 hB hS (by decide) (by decide +kernel) (by decide +kernel)
    have h0' : badH ((B1 &&& 8190 : Nat) : Int) ((S1 &&& 8191 : Nat) : Int) (outT 3) = false := badN B1 S1 8190 8191 18446744073709543424 hB1 hS1 (by decide) (by decide +kernel) (by decide +kernel)
    refine ⟨3, B &&& 8190, B1 &&& 8190, S &&& 8191, S1 &&& 8191, ?_, ⟨by decide, by decide⟩, ?_, even_and _ _ rfl, even_and _ _ rfl, lt _ _ hB, lt _ _ hB1, lt _ _ hS, lt _ _ hS1, fun h => absurd h (by decide)⟩
    · rw [if_neg (by decide), if_neg (by decide), e1, e1', e2, e2']
    · unfold checkT
      rw [if_pos (by decide), if_neg (by rw [h0, h0']; decide)]
def Bx (l R : Int) (s : List CL) : Prop := ∀ c ∈ s, hOK l c.f1 ∧ (-R ≤ c.f0.f0 ∧ c.f0.f0 ≤ R) ∧ (-R ≤ c.f0.f1 ∧ c.f0.f1 ≤ R)
theorem Bx.half {l R : Int} {s : List CL} (h : Bx l R s) : ∀ c ∈ s, hOK l c.f1 := fun c hc => (h c hc).1
theorem Bx.mono {l R R' : Int} {s : List CL} (h : Bx l R s) (hR : R ≤ R') : Bx l R' s := fun c hc => by
  obtain ⟨h1, h2, h3⟩ := h c hc
  exact ⟨h1, by omega, by omega⟩
theorem Bx.chk {l R : Int} {s : List CL} (hl : 1 ≤ l ∧ l ≤ 3) (hR : R ≤ 1000000000) (h : Bx l R s) : ∀ c ∈ s, checkR l c.f0.f0 c.f0.f1 c.f1 = none := fun c hc => by
  obtain ⟨h1, h2, h3⟩ := h c hc
  unfold checkR
  rw [if_pos hl, if_neg, if_pos (by unfold goodP; omega)]
  unfold hOK at h1
  by_cases e : l = 1
  · rw [if_pos e]; have := h1.2 e; omega
  · rw [if_neg e]; omega
theorem Bx.ok {l R : Int} {s : List CL} (hl : 1 ≤ l ∧ l ≤ 3) (hR : R ≤ 1000000000) (h : Bx l R s) : (s.all fun c => okC l c) = true := by
  rw [List.all_eq_true]
  intro c hc
  unfold okC
  rw [Bool.and_eq_true]
  refine ⟨by rw [h.chk hl hR c hc]; rfl, ?_⟩
  rw [List.all_eq_true]
  intro d hd
  obtain ⟨h1, h2, h3⟩ := h c hc
  have := bes_near l c d hl h1 hd
  exact decide_eq_true (by unfold goodP; omega)
theorem Bx.next {l R : Int} {s : List CL} {nx : Rul} (hl : 1 ≤ l ∧ l ≤ 3) (h0 : ∀ x, nx x false 0 = false) (hs : Srt s) (h : Bx l R s) : Bx l (R + 1) (nextL nx l s) := fun c hc => by
  have hh := ((next_mem nx l hl h0 s (srt_nodup hs) h.half c).1 hc).1
  obtain ⟨d, hd, h1, h2, h3, h4⟩ := next_near nx l hl h0 s (srt_nodup hs) h.half c hc
  obtain ⟨_, h5, h6⟩ := h d hd
  exact ⟨hh, by omega, by omega⟩
end Go.Proofs.YtaeenefdbahfoaaDoor
namespace Go.Proofs.YtaeenefdbahfoaaDoor.H
open Go.RowKit Go.Proofs.YtaeenefdbahfoaaDoorW.PrintWords Go.Proofs.YtaeenefdbahfoaaDoorW.PrintLast Go.Proofs.YtaeenefdbahfoaaDoorW.PrintMore
attribute [local go_sem] max2_int min2_int max_two min_two max_three min_three max_four min_four
set_option linter.unusedVariables false
set_option linter.unusedSimpArgs false
def honeycombref05_bit.l0 : Nat → Int → Int → Int → Option (Int)
 | 0, _, _, _ => none
 | k + 1, x0, x1, x5 => if x5 < x1 then (honeycombref05_bit.l0 k (IntKind.u64.wrap (Int.tdiv x0 2)) x1 (wrap64 (x5 + 1))) else (some (wrap64 (Int.tmod x0 2)))
def honeycombref05_bit.f (k : Nat) (a0 : Int) (a1 : Int) : Option (Int) := honeycombref05_bit.l0 k a0 a1 0
set_option maxHeartbeats 8000000 in
set_option maxRecDepth 100000 in
theorem honeycombref05_bit.calls (k : Nat) (a0 : Int) (a1 : Int) (r : Int) (w : World) (h : honeycombref05_bit.f k a0 a1 = some r) :
  Calls Tryd.prog 69 #[.int .u64 a0, .int .i64 a1] w fun e w' => e = .returned (.int .i64 r) ∧ Drawn0 w w' := by
 have H : (honeycombref05_bit.l0 k a0 a1 0) = some r := h
 clear h
 have H' := Aside0.mk H
 clear H
 go_enter Tryd.func69, Tryd.ntmps69
 go_wp2
 go_loopg [0, 5] k (fun kq v0 v5 w' => ∃ (x0_1 : Int) (x5_1 : Int), v0 = .int .u64 x0_1 ∧ v5 = .int .i64 x5_1 ∧ Aside0 (honeycombref05_bit.l0 kq x0_1 a1 x5_1 = some r) ∧ Aside0 (kq ≤ k) ∧ Drawn0 w w')
 case atStart => exact ⟨(a0), (0), rs_, rs_, H', ⟨Nat.le_refl _⟩, by repeat (first | exact Drawn0.refl _ | apply Drawn0.step)⟩
 case round =>
  clear H'
  try clear p2
  obtain ⟨x0_1, x5_1, rfl, rfl, HA, HK1, ⟨m1, rfl⟩⟩ := hrel
  cases gk with
  | zero => exact absurd HA.out (by simp [honeycombref05_bit.l0])
  | succ k1 =>
   have H := HA.out
   clear HA
   simp only [honeycombref05_bit.l0] at H
   by_cases c3 : x5_1 < a1
   rotate_left
   ·
    rw [if_neg c3] at H
    have c3b0 : decide (x5_1 < a1) = false := decide_eq_false c3
    clear c3
    obtain rfl := Option.some.inj H
    go_wp2
    go_ret
    exact ⟨by first | rfl | (simp; done) | (simp [*]; done), by repeat (first | exact Drawn0.refl _ | apply Drawn0.step)⟩
   rw [if_pos c3] at H
   have c3b0 : decide (x5_1 < a1) = true := decide_eq_true c3
   clear c3
   have H' := Aside0.mk H
   clear H
   go_wp2
   go_roundg k1
   case measure => have := HK1.out; omega
   case rel => exact ⟨(IntKind.u64.wrap (Int.tdiv x0_1 2)), (wrap64 (x5_1 + 1)), rs_, rs_, H', ⟨by have := HK1.out; omega⟩, by repeat (first | exact Drawn0.refl _ | apply Drawn0.step)⟩
def honeycombref05_Next.j0 : Nat → Int → Bool → Int → Bool → Int → List Int → List Int → Option (Bool)
 | 0, _, _, _, _, _, _, _ => none
 | k + 1, x1, x2, x3, x22, x373000, x373001, x373002 => if x22 = true then (some false) else (if x2 = true then (if 0 ≤ x1 then (if x1 < (x373002.length : Int) then ((honeycombref05_bit.f k (rd x373002 x1) x3).bind fun t374 => (some (t374 == 1))) else (none)) else (none)) else (if 0 ≤ x1 then (if x1 < (x373001.length : Int) then ((honeycombref05_bit.f k (rd x373001 x1) x3).bind fun t376 => (some (t376 == 1))) else (none)) else (none)))
def honeycombref05_Next.f (k : Nat) (a0_0 : Int) (l0_1 : List Int) (l0_2 : List Int) (a1 : Int) (a2 : Bool) (a3 : Int) : Option (Bool) := if a1 < 0 then (honeycombref05_Next.j0 k a1 a2 a3 true a0_0 l0_1 l0_2) else (if a1 > 1 then (honeycombref05_Next.j0 k a1 a2 a3 true a0_0 l0_1 l0_2) else (if a3 < 0 then (honeycombref05_Next.j0 k a1 a2 a3 true a0_0 l0_1 l0_2) else (honeycombref05_Next.j0 k a1 a2 a3 (decide (a3 > 63)) a0_0 l0_1 l0_2)))
set_option maxHeartbeats 8000000 in
set_option maxRecDepth 100000 in
theorem honeycombref05_Next.calls (k : Nat) (a0_0 : Int) (A0_1 : Option Addr) (c0_1 : Nat) (l0_1 : List Int) (A0_2 : Option Addr) (c0_2 : Nat) (l0_2 : List Int) (a1 : Int) (a2 : Bool) (a3 : Int) (r : Bool) (w : World) (hr0_1 : Kd.C (Kd.int .u64) w A0_1 l0_1.length l0_1) (hc0_1 : l0_1.length ≤ c0_1) (hr0_2 : Kd.C (Kd.int .u64) w A0_2 l0_2.length l0_2) (hc0_2 : l0_2.length ≤ c0_2) (h : honeycombref05_Next.f k a0_0 l0_1 l0_2 a1 a2 a3 = some r) :
  Calls Tryd.prog 35 #[.agg #[.int .i64 a0_0, .slice A0_1 l0_1.length c0_1, .slice A0_2 l0_2.length c0_2], .int .i64 a1, .bool a2, .int .i64 a3] w fun e w' => e = .returned (.bool r) ∧ Below w.heap.size w w' := by
 have hu55 := Tryd.underlying55
 have HR0_1 := Aside0.mk hr0_1
 have HC0_1 := Aside0.mk hc0_1
 clear hr0_1 hc0_1
 have HR0_2 := Aside0.mk hr0_2
 have HC0_2 := Aside0.mk hc0_2
 clear hr0_2 hc0_2
 have HB := Aside0.mk (Below.refl w.heap.size w)
 have H : (if a1 < 0 then (honeycombref05_Next.j0 k a1 a2 a3 true a0_0 l0_1 l0_2) else (if a1 > 1 then (honeycombref05_Next.j0 k a1 a2 a3 true a0_0 l0_1 l0_2) else (if a3 < 0 then (honeycombref05_Next.j0 k a1 a2 a3 true a0_0 l0_1 l0_2) else (honeycombref05_Next.j0 k a1 a2 a3 (decide (a3 > 63)) a0_0 l0_1 l0_2)))) = some r := h
 clear h
 have HC5 := Aside0.mk H
 clear H
 go_enter Tryd.func35, Tryd.ntmps35
 go_upto_region 1 with (first | ((with_reducible refine gate_dst (N := 4) rfl ?_); refine bx_ 4 #[.int .i64 a0_0, .slice A0_1 l0_1.length c0_1, .slice A0_2 l0_2.length c0_2] 55 ?_; intro gb372 hg w6 hbox hb; have BK372 := Aside0.mk (hbox); have GW372 := Aside0.mk ((by rw [hg]; exact (below_size hb_) : w.heap.size ≤ gb372)); have GE372 := GW372; replace HB := Aside0.mk (below_step hb_ hb); clear hb hbox hg))
 (try simp only [Act.put, List.setIfInBounds_toArray, List.set_cons_zero, List.set_cons_succ])
 go_cut [22] (fun v22 wc => ∃ (kq : Nat) (x22_4 : Bool), v22 = .bool x22_4 ∧ Aside0 (honeycombref05_Next.j0 kq a1 a2 a3 x22_4 a0_0 l0_1 l0_2 = some r) ∧ Aside0 (kq ≤ k) ∧ Aside0 (wc.heap[gb372]? = some (.cells #[.int .i64 a0_0, (.slice A0_1 l0_1.length c0_1), (.slice A0_2 l0_2.length c0_2)] 55 (0, 0))) ∧ Aside0 (Below w.heap.size w wc))
 case first =>
  have H := HC5.out
  clear HC5
  by_cases c7 : a1 < 0
  ·
   rw [if_pos c7] at H
   have c7b0 : decide (a1 < 0) = true := decide_eq_true c7
   clear c7
   (first | rw [c7b0] | (simp only [i64_w, i32_w]; rw [c7b0]) | skip)
   have H' := Aside0.mk H
   clear H
   go_wp2
   go_meet
   case rel => exact ⟨_, (true), rs_, H', ⟨by first | omega | exact Nat.le_refl _⟩, ⟨bk_ BK372.out⟩, ⟨by repeat (first | (with_reducible first | exact HB.out | apply ba_ | apply bn_ | apply bd_ | refine below_set ?_ GE372.out) | exact HB.out)⟩⟩
  rw [if_neg c7] at H
  have c7b0 : decide (a1 < 0) = false := decide_eq_false c7
  clear c7
  (first | rw [c7b0] | (simp only [i64_w, i32_w]; rw [c7b0]) | skip)
  by_cases c8 : a1 > 1
  ·
   rw [if_pos c8] at H
   have c8b0 : decide (1 < a1) = true := decide_eq_true c8
   clear c8
   have H' := Aside0.mk H
   clear H
   go_wp2
   go_meet
   case rel => exact ⟨_, (true), rs_, H', ⟨by first | omega | exact Nat.le_refl _⟩, ⟨bk_ BK372.out⟩, ⟨by repeat (first | (with_reducible first | exact HB.out | apply ba_ | apply bn_ | apply bd_ | refine below_set ?_ GE372.out) | exact HB.out)⟩⟩
  rw [if_neg c8] at H
  have c8b0 : decide (1 < a1) = false := decide_eq_false c8
  clear c8
  by_cases c9 : a3 < 0
  ·
   rw [if_pos c9] at H
   have c9b0 : decide (a3 < 0) = true := decide_eq_true c9
   clear c9
   have H' := Aside0.mk H
   clear H
   go_wp2
   go_meet
   case rel => exact ⟨_, (true), rs_, H', ⟨by first | omega | exact Nat.le_refl _⟩, ⟨bk_ BK372.out⟩, ⟨by repeat (first | (with_reducible first | exact HB.out | apply ba_ | apply bn_ | apply bd_ | refine below_set ?_ GE372.out) | exact HB.out)⟩⟩
  rw [if_neg c9] at H
  have c9b0 : decide (a3 < 0) = false := decide_eq_false c9
  clear c9
  have H' := Aside0.mk H
  clear H
  go_wp2
  go_meet
  case rel => exact ⟨_, (decide (a3 > 63)), rs_, H', ⟨by first | omega | exact Nat.le_refl _⟩, ⟨bk_ BK372.out⟩, ⟨by repeat (first | (with_reducible first | exact HB.out | apply ba_ | apply bn_ | apply bd_ | refine below_set ?_ GE372.out) | exact HB.out)⟩⟩
 case rest =>
  clear HC5
  try clear p2
  try clear c3
  try clear c7
  try clear c7b0
  try clear c8
  try clear c8b0
  try clear c9
  try clear c9b0
  obtain ⟨kq, x22_4, rfl, HA, HJ4, BK372, HB⟩ := hcut
  cases kq with
  | zero => exact absurd HA.out (by simp [honeycombref05_Next.j0])
  | succ kj4 =>
   have H := HA.out
   clear HA
   simp only [honeycombref05_Next.j0] at H
   by_cases c10 : x22_4 = true
   ·
    subst c10
    have H1 : (some false) = some r := by rw [if_pos rfl] at H; exact H
    clear H
    have H := H1
    clear H1
    obtain rfl := Option.some.inj H
    go_wp2
    go_ret
    exact ⟨er_, hg_ GE372.out⟩
   replace c10 := Bool.eq_false_iff.mpr c10
   subst c10
   have H1 : (if a2 = true then (if 0 ≤ a1 then (if a1 < (l0_2.length : Int) then ((honeycombref05_bit.f kj4 (rd l0_2 a1) a3).bind fun t374 => (some (t374 == 1))) else (none)) else (none)) else (if 0 ≤ a1 then (if a1 < (l0_1.length : Int) then ((honeycombref05_bit.f kj4 (rd l0_1 a1) a3).bind fun t376 => (some (t376 == 1))) else (none)) else (none))) = some r := by rw [if_neg (show ¬ (false = true) by decide)] at H; exact H
   clear H
   have H := H1
   clear H1
   by_cases c11 : a2 = true
   ·
    subst c11
    have H1 : (if 0 ≤ a1 then (if a1 < (l0_2.length : Int) then ((honeycombref05_bit.f kj4 (rd l0_2 a1) a3).bind fun t374 => (some (t374 == 1))) else (none)) else (none)) = some r := by rw [if_pos rfl] at H; exact H
    clear H
    have H := H1
    clear H1
    by_cases c12 : 0 ≤ a1
    rotate_left
    ·
     rw [if_neg c12] at H
     exact absurd H (by simp)
    rw [if_pos c12] at H
    have c12b0 : decide (0 ≤ a1) = true := decide_eq_true c12
    clear c12
    by_cases c13 : a1 < (l0_2.length : Int)
    rotate_left
    ·
     rw [if_neg c13] at H
     exact absurd H (by simp)
    rw [if_pos c13] at H
    have c13b0 : decide (a1 < (l0_2.length : Int)) = true := decide_eq_true c13
    clear c13
    replace H := Option.bind_eq_some_iff.mp H
    obtain ⟨t374, A140, H⟩ := H
    replace H : (some (t374 == 1)) = some r := H
    have A14 := Aside0.mk A140
    clear A140
    obtain rfl := Option.some.inj H
    obtain ⟨hcz15_0, hcz15_1, hcz15_2⟩ := cz3_ BK372.out
    obtain ⟨hfz15_0, hfz15_1, hfz15_2⟩ := fz3_ BK372.out
    have p373 : 0 ≤ (a1 : Int) := of_decide_eq_true as_
    have q373 : a1 < (l0_2.length : Int) := of_decide_eq_true as_
    obtain ⟨ad373, e373, hx373_0⟩ := Kd.at_int HR0_2.out a1 p373 q373
    cases e373
    try replace hx373_0 := (HB.out.cell (World.block_lt_of_cell? w _ hx373_0)).trans hx373_0
    replace p373 := eq_true p373
    replace q373 := eq_true q373
    go_wp2_with (first | ((with_reducible refine gate_callee (f := 69) rfl ?_); refine goesL_ (some 30) rfl rfl Tryd.func69 (by kernel_rfl) rfl #[.int .u64 (rd l0_2 a1), .int .i64 a3] rfl ar_ ?_; (with_reducible refine (honeycombref05_bit.calls kj4 (rd l0_2 a1) a3 t374 _ A14.out).mono ?_); rintro e w' ⟨rfl, ⟨nd, rfl⟩⟩; refine ⟨_, rfl, ?_⟩))
    go_ret
    exact ⟨er_, hg_ GE372.out⟩
   replace c11 := Bool.eq_false_iff.mpr c11
   subst c11
   have H1 : (if 0 ≤ a1 then (if a1 < (l0_1.length : Int) then ((honeycombref05_bit.f kj4 (rd l0_1 a1) a3).bind fun t376 => (some (t376 == 1))) else (none)) else (none)) = some r := by rw [if_neg (show ¬ (false = true) by decide)] at H; exact H
   clear H
   have H := H1
   clear H1
   by_cases c16 : 0 ≤ a1
   rotate_left
   ·
    rw [if_neg c16] at H
    exact absurd H (by simp)
   rw [if_pos c16] at H
   have c16b0 : decide (0 ≤ a1) = true := decide_eq_true c16
   clear c16
   by_cases c17 : a1 < (l0_1.length : Int)
   rotate_left
   ·
    rw [if_neg c17] at H
    exact absurd H (by simp)
   rw [if_pos c17] at H
   have c17b0 : decide (a1 < (l0_1.length : Int)) = true := decide_eq_true c17
   clear c17
   replace H := Option.bind_eq_some_iff.mp H
   obtain ⟨t376, A180, H⟩ := H
   replace H : (some (t376 == 1)) = some r := H
   have A18 := Aside0.mk A180
   clear A180
   obtain rfl := Option.some.inj H
   obtain ⟨hcz19_0, hcz19_1, hcz19_2⟩ := cz3_ BK372.out
   obtain ⟨hfz19_0, hfz19_1, hfz19_2⟩ := fz3_ BK372.out
   have p375 : 0 ≤ (a1 : Int) := of_decide_eq_true as_
   have q375 : a1 < (l0_1.length : Int) := of_decide_eq_true as_
   obtain ⟨ad375, e375, hx375_0⟩ := Kd.at_int HR0_1.out a1 p375 q375
   cases e375
   try replace hx375_0 := (HB.out.cell (World.block_lt_of_cell? w _ hx375_0)).trans hx375_0
   replace p375 := eq_true p375
   replace q375 := eq_true q375
   go_wp2_with (first | ((with_reducible refine gate_callee (f := 69) rfl ?_); refine goesL_ (some 38) rfl rfl Tryd.func69 (by kernel_rfl) rfl #[.int .u64 (rd l0_1 a1), .int .i64 a3] rfl ar_ ?_; (with_reducible refine (honeycombref05_bit.calls kj4 (rd l0_1 a1) a3 t376 _ A18.out).mono ?_); rintro e w' ⟨rfl, ⟨nd, rfl⟩⟩; refine ⟨_, rfl, ?_⟩))
   go_ret
   exact ⟨er_, hg_ GE372.out⟩
end Go.Proofs.YtaeenefdbahfoaaDoor.H
namespace Go.Proofs.YtaeenefdbahfoaaDoor
set_option linter.unusedSimpArgs false
set_option linter.unusedVariables false
open Go.RowKit Go.Proofs.YtaeenefdbahfoaaDoorW.PrintWords Go.Proofs.YtaeenefdbahfoaaDoorW.PrintLast Go.Proofs.YtaeenefdbahfoaaDoorW.PrintMore
open H
open Go.RowKit
theorem bit_l0 : ∀ (d k : Nat) (i : Nat) (n : Nat) (x : Nat), i + d = n → n < 1000 → x < 18446744073709551616 → d < k → honeycombref05_bit.l0 k (x : Int) (n : Int) (i : Int) = some (((x / 2 ^ d % 2 : Nat) : Int)) := by
  intro d
  induction d with
  | zero =>
    intro k i n x hi hn hx hk
    obtain ⟨k, rfl⟩ : ∃ m, k = m + 1 := ⟨k - 1, by omega⟩
    simp only [honeycombref05_bit.l0]
    rw [if_neg (by omega), Int.tmod_eq_emod_of_nonneg (by omega)]
    have e : ((x : Int) % 2) = ((x % 2 : Nat) : Int) := by omega
    rw [e, w64i _ (by omega) (by omega), Nat.pow_zero, Nat.div_one]
  | succ d ih =>
    intro k i n x hi hn hx hk
    obtain ⟨k, rfl⟩ : ∃ m, k = m + 1 := ⟨k - 1, by omega⟩
    simp only [honeycombref05_bit.l0]
    have e : Int.tdiv (x : Int) 2 = ((x / 2 : Nat) : Int) := by rw [Int.tdiv_eq_ediv_of_nonneg (by omega)]; omega
    rw [if_pos (by omega), e, u64N _ (by omega), w64i ((i : Int) + 1) (by omega) (by omega)]
    have := ih k (i + 1) n (x / 2) (by omega) hn (by omega) (by omega)
    simp only [Int.natCast_add, Int.cast_ofNat_Int] at this
    rw [this, Nat.div_div_eq_div_mul, ← Nat.pow_succ']
theorem bit_f (K x n : Nat) (hx : x < 18446744073709551616) (hn : n < 64) (hK : 64 ≤ K) : honeycombref05_bit.f K (x : Int) (n : Int) = some (((x / 2 ^ n % 2 : Nat) : Int)) := by
  unfold honeycombref05_bit.f
  have := bit_l0 n K 0 n x (by omega) (by omega) hx (by omega)
  exact this
theorem nxB_is (x n : Nat) (hx : x < 18446744073709551616) : nxB (x : Int) (n : Int) = (((x / 2 ^ n % 2 : Nat) : Int) == 1) := by
  unfold nxB
  have e : (x : Int) / 2 ^ ((n : Nat) : Int).toNat = ((x / 2 ^ n : Nat) : Int) := by simp
  have hlt : x / 2 ^ n < 18446744073709551616 := Nat.lt_of_le_of_lt (Nat.div_le_self _ _) hx
  have := andN (x / 2 ^ n) 1 hlt (by decide)
  rw [show ((1 : Nat) : Int) = 1 from rfl] at this
  rw [e, this, Nat.and_one_is_mod]
theorem rnext_f (K : Nat) (L : Int) (b0 b1 s0 s1 : Nat) (half : Int) (live : Bool) (n : Int) (hb0 : b0 < 18446744073709551616) (hb1 : b1 < 18446744073709551616) (hs0 : s0 < 18446744073709551616) (hs1 : s1 < 18446744073709551616) (hh : half = 0 ∨ half = 1) (h0 : 0 ≤ n) (h1 : n ≤ 63) (hK : 65 ≤ K) :
    honeycombref05_Next.f K L [(b0 : Int), (b1 : Int)] [(s0 : Int), (s1 : Int)] half live n = some (nxtV b0 b1 s0 s1 half live n) := by
  obtain ⟨m, rfl⟩ := Int.eq_ofNat_of_zero_le h0
  obtain ⟨k, rfl⟩ : ∃ k, K = k + 1 := ⟨K - 1, by omega⟩
  have hd : decide ((m : Int) > 63) = false := decide_eq_false (by omega)
  unfold honeycombref05_Next.f nxtV
  rw [if_neg (by omega), if_neg (by omega), if_neg (by omega), if_neg (by omega), hd]
  simp only [honeycombref05_Next.j0]
  rw [if_neg (by decide)]
  rcases hh with rfl | rfl
  · cases live
    · rw [if_neg (by decide), if_pos (by omega), if_pos (by simp), if_neg (by decide), if_pos rfl, show rd [(b0 : Int), (b1 : Int)] 0 = (b0 : Int) from rfl, bit_f k b0 m hb0 (by omega) (by omega), nxB_is b0 m hb0]
      rfl
    · rw [if_pos rfl, if_pos (by omega), if_pos (by simp), if_pos rfl, if_pos rfl, show rd [(s0 : Int), (s1 : Int)] 0 = (s0 : Int) from rfl, bit_f k s0 m hs0 (by omega) (by omega), nxB_is s0 m hs0]
      rfl
  · cases live
    · rw [if_neg (by decide), if_pos (by omega), if_pos (by simp), if_neg (by decide), if_neg (by decide), show rd [(b0 : Int), (b1 : Int)] 1 = (b1 : Int) from rfl, bit_f k b1 m hb1 (by omega) (by omega), nxB_is b1 m hb1]
      rfl
    · rw [if_pos rfl, if_pos (by omega), if_pos (by simp), if_pos rfl, if_neg (by decide), show rd [(s0 : Int), (s1 : Int)] 1 = (s1 : Int) from rfl, bit_f k s1 m hs1 (by omega) (by omega), nxB_is s1 m hs1]
      rfl
end Go.Proofs.YtaeenefdbahfoaaDoor
namespace Go.Proofs.YtaeenefdbahfoaaDoor
open Go.RowKit Go.Proofs.YtaeenefdbahfoaaDoorW.PrintWords Go.Proofs.YtaeenefdbahfoaaDoorW.PrintLast Go.Proofs.YtaeenefdbahfoaaDoorW.PrintMore
open H
open Go.RowKit
set_option linter.unusedSimpArgs false
def patL (ring : Int) (live : Bool) : Nat → List S65
  | 0 => if live = true then [⟨⟨0, 0⟩, 0⟩] else []
  | j + 1 => if Go.bits .and .i64 (ring / 2 ^ j) 1 = 1 then patL ring live j ++ [⟨⟨sixA j, sixB j⟩, 0⟩] else patL ring live j
theorem patL_le (ring : Int) (live : Bool) : ∀ j, (patL ring live j).length ≤ j + 1
  | 0 => by unfold patL; split <;> simp
  | j + 1 => by
    have := patL_le ring live j
    unfold patL
    split
    · rw [List.length_append]; simp; omega
    · omega
set_option maxRecDepth 100000 in
set_option maxHeartbeats 4000000 in
theorem XPattern_any (ring : Int) (live : Bool) (w : World) (hG : Six w) :
    Calls Tryd.prog 88 #[.int .i64 ring, .bool live] w fun e w' => ∃ v, e = .returned v ∧ Kd.R k65 65 w' w.heap.size (fun _ => True) v (ofL (patL ring live 6)) ∧ Below w.heap.size w w' := by
  have hsix := fun W hW => XSix.calls 1 0 0 1 (-1) 1 (-1) 0 0 (-1) 1 (-1) W hW rfl
  have HG := Aside0.mk hG
  have HSIX := Aside0.mk hsix
  have hof : ∀ (A : Option Addr) (c : Nat) W (_ : Kd.C k65 W A (patL ring live 6).length (patL ring live 6)) (_ : (patL ring live 6).length ≤ c), Calls Tryd.prog 37 #[.slice A (patL ring live 6).length c] W fun e w' => ∃ v0_ : Value, e = .returned v0_ ∧ Kd.R k65 65 w' W.heap.size (fun _ => True) v0_ (ofL (patL ring live 6)) ∧ Below W.heap.size W w' := fun A c W hC hc =>
    XOf.calls A c (patL ring live 6) (ofL (patL ring live 6)) W hC hc (by have := patL_le ring live 6; simp [XOf.f]; omega)
  have HOF := Aside0.mk hof
  clear hsix hG hof
  have h00 : patL ring live 0 = if live = true then [⟨⟨0, 0⟩, 0⟩] else [] := rfl
  have H00 := Aside0.mk h00
  clear h00
  -- the end: behind the origin
  cases live
  · have h0 : patL ring false 0 = [] := rfl
    have H0 := Aside0.mk h0
    clear h0 H00
    generalize hX : ofL (patL ring false 6) = X at HOF ⊢
    have HX := Aside0.mk hX
    clear hX
    go_enter Tryd.func88, Tryd.ntmps88
    go_wp2_with fail
    refine (HSIX.out _ (Six.below HG.out (Below.refl _ _))).mono ?_
    rintro e w2 ⟨rfl, hb2⟩
    have HB2 := Aside0.mk hb2
    clear hb2
    go_wp2_with fail
    go_loopw [14, 5] (fun i v wr => ∃ j : Nat, j ≤ 6 ∧ i = .int .i64 j ∧ Kd.R k65 65 wr w.heap.size (fun _ => True) v (patL ring false j) ∧ Below w.heap.size w wr) (fun i _ _ => 6 - (intOf i).toNat)
    case atStart => exact ⟨0, by omega, rfl, by rw [H0.out]; exact Kd.R_nil _ _ _ _ _, HB2.out⟩
    case round =>
      obtain ⟨j, hj, rfl, hO, hb⟩ := hrel
      have HO := Aside0.mk hO
      have HB := Aside0.mk hb
      have hzr := hb.size
      clear hO hb H0
      have hjj : j = 0 ∨ j = 1 ∨ j = 2 ∨ j = 3 ∨ j = 4 ∨ j = 5 ∨ j = 6 := by omega
      rcases hjj with rfl | rfl | rfl | rfl | rfl | rfl | rfl
      · have hix : ∀ w : World, (Instr.index 69 (.agg #[.int .i64 1, .int .i64 0, .int .i64 0, .int .i64 1, .int .i64 (-1), .int .i64 1, .int .i64 (-1), .int .i64 0, .int .i64 0, .int .i64 (-1), .int .i64 1, .int .i64 (-1)]) (.int .i64 0)).run Tryd.prog w = .ok (.agg #[.int .i64 1, .int .i64 0]) w := fun w => by kernel_rfl
        have hpl := patL_le ring false 0
        have hp : patL ring false 1 = if Go.bits .and .i64 (ring / 2 ^ 0) 1 = 1 then patL ring false 0 ++ [⟨⟨1, 0⟩, 0⟩] else patL ring false 0 := rfl
        by_cases hbit : Go.bits .and .i64 (ring / 2 ^ 0) 1 = 1
        · have hp := hp.trans (if_pos hbit)
          have HP := Aside0.mk hp
          have hbit2 : (Go.bits .and .i64 (ring / 2 ^ 0) 1 == 1) = true := beq_iff_eq.2 hbit
          simp only [Int.reducePow, Int.ediv_one] at hbit hbit2
          clear hp hbit
          go_wp2_with (at_builtin; refine app1 k65 w.heap.size (.tmp 23) (.tmp 26) 34 65 (.agg #[.int .i64 0, .int .i64 0, .int .i64 0]) 24 (w0 := w) _ (patL ring false 0) (⟨⟨1, 0⟩, 0⟩) [.int .i64 1, .int .i64 0, .int .i64 0] _ rfl rfl Tryd.underlying34 info65 rfl (by decide) (by decide) rfl (by simp; done) rfl (k65_mkM _ _ _ _) (Kd.R_alloc HO.out _) (below_alloc2 HB.out hzr _) (by simp; omega) (by omega) ?_; intro v1 w4 ho1 hb1; have HO1 := Aside0.mk ho1; have HB1 := Aside0.mk hb1; clear ho1 hb1)
          go_roundw
          case rel => exact ⟨1, by omega, by first | rfl | go_num, by rw [HP.out]; exact HO1.out, HB1.out⟩
          case measure => simp [intOf]
        · have hp := hp.trans (if_neg hbit)
          have HP := Aside0.mk hp
          have hbit2 : (Go.bits .and .i64 (ring / 2 ^ 0) 1 == 1) = false := beq_eq_false_iff_ne.2 hbit
          simp only [Int.reducePow, Int.ediv_one] at hbit hbit2
          clear hp hbit
          go_wp2
          go_roundw
          case rel => exact ⟨1, by omega, by first | rfl | go_num, by rw [HP.out]; exact Kd.R_alloc HO.out _, below_alloc2 HB.out hzr _⟩
          case measure => simp [intOf]
      · have hix : ∀ w : World, (Instr.index 69 (.agg #[.int .i64 1, .int .i64 0, .int .i64 0, .int .i64 1, .int .i64 (-1), .int .i64 1, .int .i64 (-1), .int .i64 0, .int .i64 0, .int .i64 (-1), .int .i64 1, .int .i64 (-1)]) (.int .i64 1)).run Tryd.prog w = .ok (.agg #[.int .i64 0, .int .i64 1]) w := fun w => by kernel_rfl
        have hpl := patL_le ring false 1
        have hp : patL ring false 2 = if Go.bits .and .i64 (ring / 2 ^ 1) 1 = 1 then patL ring false 1 ++ [⟨⟨0, 1⟩, 0⟩] else patL ring false 1 := rfl
        by_cases hbit : Go.bits .and .i64 (ring / 2 ^ 1) 1 = 1
        · have hp := hp.trans (if_pos hbit)
          have HP := Aside0.mk hp
          have hbit2 : (Go.bits .and .i64 (ring / 2 ^ 1) 1 == 1) = true := beq_iff_eq.2 hbit
          simp only [Int.reducePow, Int.ediv_one] at hbit hbit2
          clear hp hbit
          go_wp2_with (at_builtin; refine app1 k65 w.heap.size (.tmp 23) (.tmp 26) 34 65 (.agg #[.int .i64 0, .int .i64 0, .int .i64 0]) 24 (w0 := w) _ (patL ring false 1) (⟨⟨0, 1⟩, 0⟩) [.int .i64 0, .int .i64 1, .int .i64 0] _ rfl rfl Tryd.underlying34 info65 rfl (by decide) (by decide) rfl (by simp; done) rfl (k65_mkM _ _ _ _) (Kd.R_alloc HO.out _) (below_alloc2 HB.out hzr _) (by simp; omega) (by omega) ?_; intro v1 w4 ho1 hb1; have HO1 := Aside0.mk ho1; have HB1 := Aside0.mk hb1; clear ho1 hb1)
          go_roundw
          case rel => exact ⟨2, by omega, by first | rfl | go_num, by rw [HP.out]; exact HO1.out, HB1.out⟩
          case measure => simp [intOf]
        · have hp := hp.trans (if_neg hbit)
          have HP := Aside0.mk hp
          have hbit2 : (Go.bits .and .i64 (ring / 2 ^ 1) 1 == 1) = false := beq_eq_false_iff_ne.2 hbit
          simp only [Int.reducePow, Int.ediv_one] at hbit hbit2
          clear hp hbit
          go_wp2
          go_roundw
          case rel => exact ⟨2, by omega, by first | rfl | go_num, by rw [HP.out]; exact Kd.R_alloc HO.out _, below_alloc2 HB.out hzr _⟩
          case measure => simp [intOf]
      · have hix : ∀ w : World, (Instr.index 69 (.agg #[.int .i64 1, .int .i64 0, .int .i64 0, .int .i64 1, .int .i64 (-1), .int .i64 1, .int .i64 (-1), .int .i64 0, .int .i64 0, .int .i64 (-1), .int .i64 1, .int .i64 (-1)]) (.int .i64 2)).run Tryd.prog w = .ok (.agg #[.int .i64 (-1), .int .i64 1]) w := fun w => by kernel_rfl
        have hpl := patL_le ring false 2
        have hp : patL ring false 3 = if Go.bits .and .i64 (ring / 2 ^ 2) 1 = 1 then patL ring false 2 ++ [⟨⟨(-1), 1⟩, 0⟩] else patL ring false 2 := rfl
        by_cases hbit : Go.bits .and .i64 (ring / 2 ^ 2) 1 = 1
        · have hp := hp.trans (if_pos hbit)
          have HP := Aside0.mk hp
          have hbit2 : (Go.bits .and .i64 (ring / 2 ^ 2) 1 == 1) = true := beq_iff_eq.2 hbit
          simp only [Int.reducePow, Int.ediv_one] at hbit hbit2
          clear hp hbit
          go_wp2_with (at_builtin; refine app1 k65 w.heap.size (.tmp 23) (.tmp 26) 34 65 (.agg #[.int .i64 0, .int .i64 0, .int .i64 0]) 24 (w0 := w) _ (patL ring false 2) (⟨⟨(-1), 1⟩, 0⟩) [.int .i64 (-1), .int .i64 1, .int .i64 0] _ rfl rfl Tryd.underlying34 info65 rfl (by decide) (by decide) rfl (by simp; done) rfl (k65_mkM _ _ _ _) (Kd.R_alloc HO.out _) (below_alloc2 HB.out hzr _) (by simp; omega) (by omega) ?_; intro v1 w4 ho1 hb1; have HO1 := Aside0.mk ho1; have HB1 := Aside0.mk hb1; clear ho1 hb1)
          go_roundw
          case rel => exact ⟨3, by omega, by first | rfl | go_num, by rw [HP.out]; exact HO1.out, HB1.out⟩
          case measure => simp [intOf]
        · have hp := hp.trans (if_neg hbit)
          have HP := Aside0.mk hp
          have hbit2 : (Go.bits .and .i64 (ring / 2 ^ 2) 1 == 1) = false := beq_eq_false_iff_ne.2 hbit
          simp only [Int.reducePow, Int.ediv_one] at hbit hbit2
          clear hp hbit
          go_wp2
          go_roundw
          case rel => exact ⟨3, by omega, by first | rfl | go_num, by rw [HP.out]; exact Kd.R_alloc HO.out _, below_alloc2 HB.out hzr _⟩
          case measure => simp [intOf]
      · have hix : ∀ w : World, (Instr.index 69 (.agg #[.int .i64 1, .int .i64 0, .int .i64 0, .int .i64 1, .int .i64 (-1), .int .i64 1, .int .i64 (-1), .int .i64 0, .int .i64 0, .int .i64 (-1), .int .i64 1, .int .i64 (-1)]) (.int .i64 3)).run Tryd.prog w = .ok (.agg #[.int .i64 (-1), .int .i64 0]) w := fun w => by kernel_rfl
        have hpl := patL_le ring false 3
        have hp : patL ring false 4 = if Go.bits .and .i64 (ring / 2 ^ 3) 1 = 1 then patL ring false 3 ++ [⟨⟨(-1), 0⟩, 0⟩] else patL ring false 3 := rfl
        by_cases hbit : Go.bits .and .i64 (ring / 2 ^ 3) 1 = 1
        · have hp := hp.trans (if_pos hbit)
          have HP := Aside0.mk hp
          have hbit2 : (Go.bits .and .i64 (ring / 2 ^ 3) 1 == 1) = true := beq_iff_eq.2 hbit
          simp only [Int.reducePow, Int.ediv_one] at hbit hbit2
          clear hp hbit
          go_wp2_with (at_builtin; refine app1 k65 w.heap.size (.tmp 23) (.tmp 26) 34 65 (.agg #[.int .i64 0, .int .i64 0, .int .i64 0]) 24 (w0 := w) _ (patL ring false 3) (⟨⟨(-1), 0⟩, 0⟩) [.int .i64 (-1), .int .i64 0, .int .i64 0] _ rfl rfl Tryd.underlying34 info65 rfl (by decide) (by decide) rfl (by simp; done) rfl (k65_mkM _ _ _ _) (Kd.R_alloc HO.out _) (below_alloc2 HB.out hzr _) (by simp; omega) (by omega) ?_; intro v1 w4 ho1 hb1; have HO1 := Aside0.mk ho1; have HB1 := Aside0.mk hb1; clear ho1 hb1)
          go_roundw
          case rel => exact ⟨4, by omega, by first | rfl | go_num, by rw [HP.out]; exact HO1.out, HB1.out⟩
          case measure => simp [intOf]
        · have hp := hp.trans (if_neg hbit)
          have HP := Aside0.mk hp
          have hbit2 : (Go.bits .and .i64 (ring / 2 ^ 3) 1 == 1) = false := beq_eq_false_iff_ne.2 hbit
          simp only [Int.reducePow, Int.ediv_one] at hbit hbit2
          clear hp hbit
          go_wp2
          go_roundw
          case rel => exact ⟨4, by omega, by first | rfl | go_num, by rw [HP.out]; exact Kd.R_alloc HO.out _, below_alloc2 HB.out hzr _⟩
          case measure => simp [intOf]
      · have hix : ∀ w : World, (Instr.index 69 (.agg #[.int .i64 1, .int .i64 0, .int .i64 0, .int .i64 1, .int .i64 (-1), .int .i64 1, .int .i64 (-1), .int .i64 0, .int .i64 0, .int .i64 (-1), .int .i64 1, .int .i64 (-1)]) (.int .i64 4)).run Tryd.prog w = .ok (.agg #[.int .i64 0, .int .i64 (-1)]) w := fun w => by kernel_rfl
        have hpl := patL_le ring false 4
        have hp : patL ring false 5 = if Go.bits .and .i64 (ring / 2 ^ 4) 1 = 1 then patL ring false 4 ++ [⟨⟨0, (-1)⟩, 0⟩] else patL ring false 4 := rfl
        by_cases hbit : Go.bits .and .i64 (ring / 2 ^ 4) 1 = 1
        · have hp := hp.trans (if_pos hbit)
          have HP := Aside0.mk hp
          have hbit2 : (Go.bits .and .i64 (ring / 2 ^ 4) 1 == 1) = true := beq_iff_eq.2 hbit
          simp only [Int.reducePow, Int.ediv_one] at hbit hbit2
          clear hp hbit
          go_wp2_with (at_builtin; refine app1 k65 w.heap.size (.tmp 23) (.tmp 26) 34 65 (.agg #[.int .i64 0, .int .i64 0, .int .i64 0]) 24 (w0 := w) _ (patL ring false 4) (⟨⟨0, (-1)⟩, 0⟩) [.int .i64 0, .int .i64 (-1), .int .i64 0] _ rfl rfl Tryd.underlying34 info65 rfl (by decide) (by decide) rfl (by simp; done) rfl (k65_mkM _ _ _ _) (Kd.R_alloc HO.out _) (below_alloc2 HB.out hzr _) (by simp; omega) (by omega) ?_; intro v1 w4 ho1 hb1; have HO1 := Aside0.mk ho1; have HB1 := Aside0.mk hb1; clear ho1 hb1)
          go_roundw
          case rel => exact ⟨5, by omega, by first | rfl | go_num, by rw [HP.out]; exact HO1.out, HB1.out⟩
          case measure => simp [intOf]
        · have hp := hp.trans (if_neg hbit)
          have HP := Aside0.mk hp
          have hbit2 : (Go.bits .and .i64 (ring / 2 ^ 4) 1 == 1) = false := beq_eq_false_iff_ne.2 hbit
          simp only [Int.reducePow, Int.ediv_one] at hbit hbit2
          clear hp hbit
          go_wp2
          go_roundw
          case rel => exact ⟨5, by omega, by first | rfl | go_num, by rw [HP.out]; exact Kd.R_alloc HO.out _, below_alloc2 HB.out hzr _⟩
          case measure => simp [intOf]
      · have hix : ∀ w : World, (Instr.index 69 (.agg #[.int .i64 1, .int .i64 0, .int .i64 0, .int .i64 1, .int .i64 (-1), .int .i64 1, .int .i64 (-1), .int .i64 0, .int .i64 0, .int .i64 (-1), .int .i64 1, .int .i64 (-1)]) (.int .i64 5)).run Tryd.prog w = .ok (.agg #[.int .i64 1, .int .i64 (-1)]) w := fun w => by kernel_rfl
        have hpl := patL_le ring false 5
        have hp : patL ring false 6 = if Go.bits .and .i64 (ring / 2 ^ 5) 1 = 1 then patL ring false 5 ++ [⟨⟨1, (-1)⟩, 0⟩] else patL ring false 5 := rfl
        by_cases hbit : Go.bits .and .i64 (ring / 2 ^ 5) 1 = 1
        · have hp := hp.trans (if_pos hbit)
          have HP := Aside0.mk hp
          have hbit2 : (Go.bits .and .i64 (ring / 2 ^ 5) 1 == 1) = true := beq_iff_eq.2 hbit
          simp only [Int.reducePow, Int.ediv_one] at hbit hbit2
          clear hp hbit
          go_wp2_with (at_builtin; refine app1 k65 w.heap.size (.tmp 23) (.tmp 26) 34 65 (.agg #[.int .i64 0, .int .i64 0, .int .i64 0]) 24 (w0 := w) _ (patL ring false 5) (⟨⟨1, (-1)⟩, 0⟩) [.int .i64 1, .int .i64 (-1), .int .i64 0] _ rfl rfl Tryd.underlying34 info65 rfl (by decide) (by decide) rfl (by simp; done) rfl (k65_mkM _ _ _ _) (Kd.R_alloc HO.out _) (below_alloc2 HB.out hzr _) (by simp; omega) (by omega) ?_; intro v1 w4 ho1 hb1; have HO1 := Aside0.mk ho1; have HB1 := Aside0.mk hb1; clear ho1 hb1)
          go_roundw
          case rel => exact ⟨6, by omega, by first | rfl | go_num, by rw [HP.out]; exact HO1.out, HB1.out⟩
          case measure => simp [intOf]
        · have hp := hp.trans (if_neg hbit)
          have HP := Aside0.mk hp
          have hbit2 : (Go.bits .and .i64 (ring / 2 ^ 5) 1 == 1) = false := beq_eq_false_iff_ne.2 hbit
          simp only [Int.reducePow, Int.ediv_one] at hbit hbit2
          clear hp hbit
          go_wp2
          go_roundw
          case rel => exact ⟨6, by omega, by first | rfl | go_num, by rw [HP.out]; exact Kd.R_alloc HO.out _, below_alloc2 HB.out hzr _⟩
          case measure => simp [intOf]
      · obtain ⟨A3, c3, rfl, hl3, hc3⟩ := Kd.R_reads HO.out
        have HC3 := Aside0.mk hc3
        have HL3 := Aside0.mk hl3
        clear hc3 hl3
        go_wp2_with (go_at_call 37; refine (HOF.out A3 c3 _ HC3.out HL3.out).mono ?_; rintro e w5 ⟨v5, rfl, ho5, hb5⟩; have HO5 := Aside0.mk ho5; have HB5 := Aside0.mk (HB.out.trans (hb5.mono hzr)); clear ho5 hb5)
        go_ret
        exact ⟨_, rfl, Kd.R_lower HO5.out hzr, HB5.out⟩
  · have h0 : patL ring true 0 = [⟨⟨0, 0⟩, 0⟩] := rfl
    have H0 := Aside0.mk h0
    clear h0 H00
    generalize hX : ofL (patL ring true 6) = X at HOF ⊢
    have HX := Aside0.mk hX
    clear hX
    go_enter Tryd.func88, Tryd.ntmps88
    go_wp2_with (at_builtin; refine app1 k65 w.heap.size (.tmp 9) (.tmp 11) 34 65 (.agg #[.int .i64 0, .int .i64 0, .int .i64 0]) 24 (w0 := w) _ ([]) (⟨⟨0, 0⟩, 0⟩) [.int .i64 0, .int .i64 0, .int .i64 0] _ rfl rfl Tryd.underlying34 info65 rfl (by decide) (by decide) rfl (by simp; done) rfl (k65_mkM _ _ _ _) (Kd.R_nil _ _ _ _ _) (Below.refl _ _) (Nat.le_refl _) (by decide) ?_; intro v1 w1 ho1 hb1; have HO1 := Aside0.mk ho1; have HB1 := Aside0.mk hb1; clear ho1 hb1)
    refine (HSIX.out _ (Six.below HG.out (HB1.out))).mono ?_
    rintro e w2 ⟨rfl, hb2⟩
    have hz1 := HB1.out.size
    have HO2 := Aside0.mk (Kd.R_below HO1.out hb2)
    have HB2 := Aside0.mk (HB1.out.trans (hb2.mono hz1))
    clear hb2
    go_wp2_with fail
    go_loopw [14, 5] (fun i v wr => ∃ j : Nat, j ≤ 6 ∧ i = .int .i64 j ∧ Kd.R k65 65 wr w.heap.size (fun _ => True) v (patL ring true j) ∧ Below w.heap.size w wr) (fun i _ _ => 6 - (intOf i).toNat)
    case atStart => exact ⟨0, by omega, rfl, by rw [H0.out]; exact HO2.out, HB2.out⟩
    case round =>
      obtain ⟨j, hj, rfl, hO, hb⟩ := hrel
      have HO := Aside0.mk hO
      have HB := Aside0.mk hb
      have hzr := hb.size
      clear hO hb H0
      have hjj : j = 0 ∨ j = 1 ∨ j = 2 ∨ j = 3 ∨ j = 4 ∨ j = 5 ∨ j = 6 := by omega
      rcases hjj with rfl | rfl | rfl | rfl | rfl | rfl | rfl
      · have hix : ∀ w : World, (Instr.index 69 (.agg #[.int .i64 1, .int .i64 0, .int .i64 0, .int .i64 1, .int .i64 (-1), .int .i64 1, .int .i64 (-1), .int .i64 0, .int .i64 0, .int .i64 (-1), .int .i64 1, .int .i64 (-1)]) (.int .i64 0)).run Tryd.prog w = .ok (.agg #[.int .i64 1, .int .i64 0]) w := fun w => by kernel_rfl
        have hpl := patL_le ring true 0
        have hp : patL ring true 1 = if Go.bits .and .i64 (ring / 2 ^ 0) 1 = 1 then patL ring true 0 ++ [⟨⟨1, 0⟩, 0⟩] else patL ring true 0 := rfl
        by_cases hbit : Go.bits .and .i64 (ring / 2 ^ 0) 1 = 1
        · have hp := hp.trans (if_pos hbit)
          have HP := Aside0.mk hp
          have hbit2 : (Go.bits .and .i64 (ring / 2 ^ 0) 1 == 1) = true := beq_iff_eq.2 hbit
          simp only [Int.reducePow, Int.ediv_one] at hbit hbit2
          clear hp hbit
          go_wp2_with (at_builtin; refine app1 k65 w.heap.size (.tmp 23) (.tmp 26) 34 65 (.agg #[.int .i64 0, .int .i64 0, .int .i64 0]) 24 (w0 := w) _ (patL ring true 0) (⟨⟨1, 0⟩, 0⟩) [.int .i64 1, .int .i64 0, .int .i64 0] _ rfl rfl Tryd.underlying34 info65 rfl (by decide) (by decide) rfl (by simp; done) rfl (k65_mkM _ _ _ _) (Kd.R_alloc HO.out _) (below_alloc2 HB.out hzr _) (by simp; omega) (by omega) ?_; intro v1 w4 ho1 hb1; have HO1 := Aside0.mk ho1; have HB1 := Aside0.mk hb1; clear ho1 hb1)
          go_roundw
          case rel => exact ⟨1, by omega, by first | rfl | go_num, by rw [HP.out]; exact HO1.out, HB1.out⟩
          case measure => simp [intOf]
        · have hp := hp.trans (if_neg hbit)
          have HP := Aside0.mk hp
          have hbit2 : (Go.bits .and .i64 (ring / 2 ^ 0) 1 == 1) = false := beq_eq_false_iff_ne.2 hbit
          simp only [Int.reducePow, Int.ediv_one] at hbit hbit2
          clear hp hbit
          go_wp2
          go_roundw
          case rel => exact ⟨1, by omega, by first | rfl | go_num, by rw [HP.out]; exact Kd.R_alloc HO.out _, below_alloc2 HB.out hzr _⟩
          case measure => simp [intOf]
      · have hix : ∀ w : World, (Instr.index 69 (.agg #[.int .i64 1, .int .i64 0, .int .i64 0, .int .i64 1, .int .i64 (-1), .int .i64 1, .int .i64 (-1), .int .i64 0, .int .i64 0, .int .i64 (-1), .int .i64 1, .int .i64 (-1)]) (.int .i64 1)).run Tryd.prog w = .ok (.agg #[.int .i64 0, .int .i64 1]) w := fun w => by kernel_rfl
        have hpl := patL_le ring true 1
        have hp : patL ring true 2 = if Go.bits .and .i64 (ring / 2 ^ 1) 1 = 1 then patL ring true 1 ++ [⟨⟨0, 1⟩, 0⟩] else patL ring true 1 := rfl
        by_cases hbit : Go.bits .and .i64 (ring / 2 ^ 1) 1 = 1
        · have hp := hp.trans (if_pos hbit)
          have HP := Aside0.mk hp
          have hbit2 : (Go.bits .and .i64 (ring / 2 ^ 1) 1 == 1) = true := beq_iff_eq.2 hbit
          simp only [Int.reducePow, Int.ediv_one] at hbit hbit2
          clear hp hbit
          go_wp2_with (at_builtin; refine app1 k65 w.heap.size (.tmp 23) (.tmp 26) 34 65 (.agg #[.int .i64 0, .int .i64 0, .int .i64 0]) 24 (w0 := w) _ (patL ring true 1) (⟨⟨0, 1⟩, 0⟩) [.int .i64 0, .int .i64 1, .int .i64 0] _ rfl rfl Tryd.underlying34 info65 rfl (by decide) (by decide) rfl (by simp; done) rfl (k65_mkM _ _ _ _) (Kd.R_alloc HO.out _) (below_alloc2 HB.out hzr _) (by simp; omega) (by omega) ?_; intro v1 w4 ho1 hb1; have HO1 := Aside0.mk ho1; have HB1 := Aside0.mk hb1; clear ho1 hb1)
          go_roundw
          case rel => exact ⟨2, by omega, by first | rfl | go_num, by rw [HP.out]; exact HO1.out, HB1.out⟩
          case measure => simp [intOf]
        · have hp := hp.trans (if_neg hbit)
          have HP := Aside0.mk hp
          have hbit2 : (Go.bits .and .i64 (ring / 2 ^ 1) 1 == 1) = false := beq_eq_false_iff_ne.2 hbit
          simp only [Int.reducePow, Int.ediv_one] at hbit hbit2
          clear hp hbit
          go_wp2
          go_roundw
          case rel => exact ⟨2, by omega, by first | rfl | go_num, by rw [HP.out]; exact Kd.R_alloc HO.out _, below_alloc2 HB.out hzr _⟩
          case measure => simp [intOf]
      · have hix : ∀ w : World, (Instr.index 69 (.agg #[.int .i64 1, .int .i64 0, .int .i64 0, .int .i64 1, .int .i64 (-1), .int .i64 1, .int .i64 (-1), .int .i64 0, .int .i64 0, .int .i64 (-1), .int .i64 1, .int .i64 (-1)]) (.int .i64 2)).run Tryd.prog w = .ok (.agg #[.int .i64 (-1), .int .i64 1]) w := fun w => by kernel_rfl
        have hpl := patL_le ring true 2
        have hp : patL ring true 3 = if Go.bits .and .i64 (ring / 2 ^ 2) 1 = 1 then patL ring true 2 ++ [⟨⟨(-1), 1⟩, 0⟩] else patL ring true 2 := rfl
        by_cases hbit : Go.bits .and .i64 (ring / 2 ^ 2) 1 = 1
        · have hp := hp.trans (if_pos hbit)
          have HP := Aside0.mk hp
          have hbit2 : (Go.bits .and .i64 (ring / 2 ^ 2) 1 == 1) = true := beq_iff_eq.2 hbit
          simp only [Int.reducePow, Int.ediv_one] at hbit hbit2
          clear hp hbit
          go_wp2_with (at_builtin; refine app1 k65 w.heap.size (.tmp 23) (.tmp 26) 34 65 (.agg #[.int .i64 0, .int .i64 0, .int .i64 0]) 24 (w0 := w) _ (patL ring true 2) (⟨⟨(-1), 1⟩, 0⟩) [.int .i64 (-1), .int .i64 1, .int .i64 0] _ rfl rfl Tryd.underlying34 info65 rfl (by decide) (by decide) rfl (by simp; done) rfl (k65_mkM _ _ _ _) (Kd.R_alloc HO.out _) (below_alloc2 HB.out hzr _) (by simp; omega) (by omega) ?_; intro v1 w4 ho1 hb1; have HO1 := Aside0.mk ho1; have HB1 := Aside0.mk hb1; clear ho1 hb1)
          go_roundw
          case rel => exact ⟨3, by omega, by first | rfl | go_num, by rw [HP.out]; exact HO1.out, HB1.out⟩
          case measure => simp [intOf]
        · have hp := hp.trans (if_neg hbit)
          have HP := Aside0.mk hp
          have hbit2 : (Go.bits .and .i64 (ring / 2 ^ 2) 1 == 1) = false := beq_eq_false_iff_ne.2 hbit
          simp only [Int.reducePow, Int.ediv_one] at hbit hbit2
          clear hp hbit
          go_wp2
          go_roundw
          case rel => exact ⟨3, by omega, by first | rfl | go_num, by rw [HP.out]; exact Kd.R_alloc HO.out _, below_alloc2 HB.out hzr _⟩
          case measure => simp [intOf]
      · have hix : ∀ w : World, (Instr.index 69 (.agg #[.int .i64 1, .int .i64 0, .int .i64 0, .int .i64 1, .int .i64 (-1), .int .i64 1, .int .i64 (-1), .int .i64 0, .int .i64 0, .int .i64 (-1), .int .i64 1, .int .i64 (-1)]) (.int .i64 3)).run Tryd.prog w = .ok (.agg #[.int .i64 (-1), .int .i64 0]) w := fun w => by kernel_rfl
        have hpl := patL_le ring true 3
        have hp : patL ring true 4 = if Go.bits .and .i64 (ring / 2 ^ 3) 1 = 1 then patL ring true 3 ++ [⟨⟨(-1), 0⟩, 0⟩] else patL ring true 3 := rfl
        by_cases hbit : Go.bits .and .i64 (ring / 2 ^ 3) 1 = 1
        · have hp := hp.trans (if_pos hbit)
          have HP := Aside0.mk hp
          have hbit2 : (Go.bits .and .i64 (ring / 2 ^ 3) 1 == 1) = true := beq_iff_eq.2 hbit
          simp only [Int.reducePow, Int.ediv_one] at hbit hbit2
          clear hp hbit
          go_wp2_with (at_builtin; refine app1 k65 w.heap.size (.tmp 23) (.tmp 26) 34 65 (.agg #[.int .i64 0, .int .i64 0, .int .i64 0]) 24 (w0 := w) _ (patL ring true 3) (⟨⟨(-1), 0⟩, 0⟩) [.int .i64 (-1), .int .i64 0, .int .i64 0] _ rfl rfl Tryd.underlying34 info65 rfl (by decide) (by decide) rfl (by simp; done) rfl (k65_mkM _ _ _ _) (Kd.R_alloc HO.out _) (below_alloc2 HB.out hzr _) (by simp; omega) (by omega) ?_; intro v1 w4 ho1 hb1; have HO1 := Aside0.mk ho1; have HB1 := Aside0.mk hb1; clear ho1 hb1)
          go_roundw
          case rel => exact ⟨4, by omega, by first | rfl | go_num, by rw [HP.out]; exact HO1.out, HB1.out⟩
          case measure => simp [intOf]
        · have hp := hp.trans (if_neg hbit)
          have HP := Aside0.mk hp
          have hbit2 : (Go.bits .and .i64 (ring / 2 ^ 3) 1 == 1) = false := beq_eq_false_iff_ne.2 hbit
          simp only [Int.reducePow, Int.ediv_one] at hbit hbit2
          clear hp hbit
          go_wp2
          go_roundw
          case rel => exact ⟨4, by omega, by first | rfl | go_num, by rw [HP.out]; exact Kd.R_alloc HO.out _, below_alloc2 HB.out hzr _⟩
          case measure => simp [intOf]
      · have hix : ∀ w : World, (Instr.index 69 (.agg #[.int .i64 1, .int .i64 0, .int .i64 0, .int .i64 1, .int .i64 (-1), .int .i64 1, .int .i64 (-1), .int .i64 0, .int .i64 0, .int .i64 (-1), .int .i64 1, .int .i64 (-1)]) (.int .i64 4)).run Tryd.prog w = .ok (.agg #[.int .i64 0, .int .i64 (-1)]) w := fun w => by kernel_rfl
        have hpl := patL_le ring true 4
        have hp : patL ring true 5 = if Go.bits .and .i64 (ring / 2 ^ 4) 1 = 1 then patL ring true 4 ++ [⟨⟨0, (-1)⟩, 0⟩] else patL ring true 4 := rfl
        by_cases hbit : Go.bits .and .i64 (ring / 2 ^ 4) 1 = 1
        · have hp := hp.trans (if_pos hbit)
          have HP := Aside0.mk hp
          have hbit2 : (Go.bits .and .i64 (ring / 2 ^ 4) 1 == 1) = true := beq_iff_eq.2 hbit
          simp only [Int.reducePow, Int.ediv_one] at hbit hbit2
          clear hp hbit
          go_wp2_with (at_builtin; refine app1 k65 w.heap.size (.tmp 23) (.tmp 26) 34 65 (.agg #[.int .i64 0, .int .i64 0, .int .i64 0]) 24 (w0 := w) _ (patL ring true 4) (⟨⟨0, (-1)⟩, 0⟩) [.int .i64 0, .int .i64 (-1), .int .i64 0] _ rfl rfl Tryd.underlying34 info65 rfl (by decide) (by decide) rfl (by simp; done) rfl (k65_mkM _ _ _ _) (Kd.R_alloc HO.out _) (below_alloc2 HB.out hzr _) (by simp; omega) (by omega) ?_; intro v1 w4 ho1 hb1; have HO1 := Aside0.mk ho1; have HB1 := Aside0.mk hb1; clear ho1 hb1)
          go_roundw
          case rel => exact ⟨5, by omega, by first | rfl | go_num, by rw [HP.out]; exact HO1.out, HB1.out⟩
          case measure => simp [intOf]
        · have hp := hp.trans (if_neg hbit)
          have HP := Aside0.mk hp
          have hbit2 : (Go.bits .and .i64 (ring / 2 ^ 4) 1 == 1) = false := beq_eq_false_iff_ne.2 hbit
          simp only [Int.reducePow, Int.ediv_one] at hbit hbit2
          clear hp hbit
          go_wp2
          go_roundw
          case rel => exact ⟨5, by omega, by first | rfl | go_num, by rw [HP.out]; exact Kd.R_alloc HO.out _, below_alloc2 HB.out hzr _⟩
          case measure => simp [intOf]
      · have hix : ∀ w : World, (Instr.index 69 (.agg #[.int .i64 1, .int .i64 0, .int .i64 0, .int .i64 1, .int .i64 (-1), .int .i64 1, .int .i64 (-1), .int .i64 0, .int .i64 0, .int .i64 (-1), .int .i64 1, .int .i64 (-1)]) (.int .i64 5)).run Tryd.prog w = .ok (.agg #[.int .i64 1, .int .i64 (-1)]) w := fun w => by kernel_rfl
        have hpl := patL_le ring true 5
        have hp : patL ring true 6 = if Go.bits .and .i64 (ring / 2 ^ 5) 1 = 1 then patL ring true 5 ++ [⟨⟨1, (-1)⟩, 0⟩] else patL ring true 5 := rfl
        by_cases hbit : Go.bits .and .i64 (ring / 2 ^ 5) 1 = 1
        · have hp := hp.trans (if_pos hbit)
          have HP := Aside0.mk hp
          have hbit2 : (Go.bits .and .i64 (ring / 2 ^ 5) 1 == 1) = true := beq_iff_eq.2 hbit
          simp only [Int.reducePow, Int.ediv_one] at hbit hbit2
          clear hp hbit
          go_wp2_with (at_builtin; refine app1 k65 w.heap.size (.tmp 23) (.tmp 26) 34 65 (.agg #[.int .i64 0, .int .i64 0, .int .i64 0]) 24 (w0 := w) _ (patL ring true 5) (⟨⟨1, (-1)⟩, 0⟩) [.int .i64 1, .int .i64 (-1), .int .i64 0] _ rfl rfl Tryd.underlying34 info65 rfl (by decide) (by decide) rfl (by simp; done) rfl (k65_mkM _ _ _ _) (Kd.R_alloc HO.out _) (below_alloc2 HB.out hzr _) (by simp; omega) (by omega) ?_; intro v1 w4 ho1 hb1; have HO1 := Aside0.mk ho1; have HB1 := Aside0.mk hb1; clear ho1 hb1)
          go_roundw
          case rel => exact ⟨6, by omega, by first | rfl | go_num, by rw [HP.out]; exact HO1.out, HB1.out⟩
          case measure => simp [intOf]
        · have hp := hp.trans (if_neg hbit)
          have HP := Aside0.mk hp
          have hbit2 : (Go.bits .and .i64 (ring / 2 ^ 5) 1 == 1) = false := beq_eq_false_iff_ne.2 hbit
          simp only [Int.reducePow, Int.ediv_one] at hbit hbit2
          clear hp hbit
          go_wp2
          go_roundw
          case rel => exact ⟨6, by omega, by first | rfl | go_num, by rw [HP.out]; exact Kd.R_alloc HO.out _, below_alloc2 HB.out hzr _⟩
          case measure => simp [intOf]
      · obtain ⟨A3, c3, rfl, hl3, hc3⟩ := Kd.R_reads HO.out
        have HC3 := Aside0.mk hc3
        have HL3 := Aside0.mk hl3
        clear hc3 hl3
        go_wp2_with (go_at_call 37; refine (HOF.out A3 c3 _ HC3.out HL3.out).mono ?_; rintro e w5 ⟨v5, rfl, ho5, hb5⟩; have HO5 := Aside0.mk ho5; have HB5 := Aside0.mk (HB.out.trans (hb5.mono hzr)); clear ho5 hb5)
        go_ret
        exact ⟨_, rfl, Kd.R_lower HO5.out hzr, HB5.out⟩
def XPattern.f (ring : Int) (live : Bool) : Option (List S65) := some (ofL (patL ring live 6))
theorem XPattern.calls (a0 : Int) (a1 : Bool) (r : List S65) (w : World) (hGSix : Six w) (h : XPattern.f a0 a1 = some r) :
    Calls Tryd.prog 88 #[.int .i64 a0, .bool a1] w fun e w' => ∃ v0_ : Value, e = .returned v0_ ∧ Kd.R k65 65 w' w.heap.size (fun _ => True) v0_ r ∧ Below w.heap.size w w' := by
  obtain rfl := Option.some.inj h
  exact XPattern_any a0 a1 w hGSix
end Go.Proofs.YtaeenefdbahfoaaDoor
namespace Go.Proofs.YtaeenefdbahfoaaDoor
set_option linter.unusedSimpArgs false
set_option linter.unusedVariables false
open Go.RowKit Go.Proofs.YtaeenefdbahfoaaDoorW.PrintWords Go.Proofs.YtaeenefdbahfoaaDoorW.PrintLast Go.Proofs.YtaeenefdbahfoaaDoorW.PrintMore
open H
open Go.RowKit
abbrev Z0 : CL := mk 0 0 0
/-- so many of those beside the origin's triangle, and it -/
def triL (l : Int) (n : Nat) (live : Bool) : List CL := (besL l Z0).take n ++ (if live = true then [Z0] else [])
def cntT (l : Int) : Nat := if l = 2 then 3 else 12
theorem tri_len2 : ∀ l : Int, l = 2 ∨ l = 3 → (besL l Z0).length = cntT l := by rintro l (rfl | rfl) <;> decide
end Go.Proofs.YtaeenefdbahfoaaDoor
