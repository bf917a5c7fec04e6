/- (Set).Shift, (Set).Turn where all can be brought. -/
import Derived.Test.YtpekdgdogmaohaaEach
import Derived.Test.YtpekdgdogmaohaaXOn
namespace Go.Proofs.Ytpekdgdogmaohaa
open Go.RowKit Go.Proofs.YtpekdgdogmaohaaW.PrintWords Go.Proofs.YtpekdgdogmaohaaW.PrintLast Go.Proofs.YtpekdgdogmaohaaW.PrintMore
open H
open Go.Shelf Go.RowKit Go.Lib Go.Sort

set_option maxRecDepth 100000 in
set_option maxHeartbeats 2000000 in
theorem shiftF_any (x : CL) (g : Nat) (a b : Int) (w : World) (hg0 : w.cell? ⟨g, 0, none⟩ = some (.int .i64 a)) (hg1 : w.cell? ⟨g, 1, none⟩ = some (.int .i64 b)) (h1 : goodP x.f0.f0 x.f0.f1) (h2 : goodP a b) (h3 : goodP (x.f0.f0 + a) (x.f0.f1 + b)) :
    Calls Try.prog 40 #[.agg #[.int .i64 x.f0.f0, .int .i64 x.f0.f1, .int .i64 x.f1], .pointer (some ⟨g, 0, none⟩)] w fun e w' => e = .returned (.tuple #[.agg #[.int .i64 (sh a b x).f0.f0, .int .i64 (sh a b x).f0.f1, .int .i64 (sh a b x).f1], .nilIface]) ∧ Below w.heap.size w w' := by
  have hpl := fun W => plus_any x.f0.f0 x.f0.f1 a b W h1 h2 h3
  have e0 : (sh a b x).f0.f0 = x.f0.f0 + a := Int.add_comm _ _
  have e1 : (sh a b x).f0.f1 = x.f0.f1 + b := Int.add_comm _ _
  have e2 : (sh a b x).f1 = x.f1 := rfl
  rw [e0, e1, e2]
  have hlt := World.block_lt_of_cell? w ⟨g, 0, none⟩ hg0
  clear h1 h2 h3 e0 e1 e2
  generalize x.f0.f0 + a = p at hpl ⊢
  generalize x.f0.f1 + b = q at hpl ⊢
  go_enter Try.func40, Try.ntmps40
  go_wp2_with fail
  obtain ⟨w2, hw2, hcc, _, hsz, hB2⟩ := two_new w #[.int .i64 x.f0.f0, .int .i64 x.f0.f1, .int .i64 x.f1] #[.int .i64 0, .int .i64 0, .int .i64 0] 37 37
  have hrb : w2.heap[w.heap.size + 1]? = some (.cells #[.int .i64 0, .int .i64 0, .int .i64 0] 37 (0, 0)) := by
    rw [hw2]
    have := blk_new (w.alloc (.cells #[.int .i64 x.f0.f0, .int .i64 x.f0.f1, .int .i64 x.f1] 37)) (.cells #[.int .i64 0, .int .i64 0, .int .i64 0] 37 (0, 0))
    simpa using this
  rw [← hw2]
  clear hw2
  have d2 : w2.cell? ⟨w.heap.size, 2, none⟩ = some (.int .i64 x.f1) := hcc 2 _ rfl
  have hz0 : w.heap.size < w2.heap.size := by omega
  have HB2 := Aside0.mk hB2
  have RB := Aside0.mk hrb
  clear hcc hB2 hrb hg0 hg1
  refine (hpl _).mono ?_
  rintro e w3 ⟨rfl, hb3⟩
  have hr3 := blk_below RB.out hb3
  have q0 := blk_cell hr3 0
  have q1 := blk_cell hr3 1
  have q2 := blk_cell hr3 2
  have q3 := blk_frozen hr3
  have d2 := pw_cell_below hb3 d2
  have hz3 : w.heap.size + 1 < w3.heap.size := blk_lt hr3
  have hz3' : w.heap.size < w3.heap.size := by omega
  have RB3 := Aside0.mk hr3
  have HB3 := Aside0.mk (HB2.out.trans (hb3.mono HB2.out.size))
  clear hr3 hb3
  go_wp2
  have hr := blk_alloc (blk_set (blk_set (blk_set RB3.out 0 (.int .i64 p)) 1 (.int .i64 q)) 2 (.int .i64 x.f1)) (.cells #[.int .i64 p, .int .i64 q] 35)
  refine bodyPost_ret (results_ct rfl _ _ (w.heap.size + 1) 37 #[.int .i64 p, .int .i64 q, .int .i64 x.f1] (0, 0) _ rfl hr Try.underlying37 rfl (by kernel_rfl)) rfl ⟨rfl, ?_⟩
  exact below_alloc (Below.setCell (p := ⟨w.heap.size + 1, 2, none⟩) (Below.setCell (p := ⟨w.heap.size + 1, 1, none⟩) (Below.setCell (p := ⟨w.heap.size + 1, 0, none⟩) HB3.out (Nat.le_succ _) _) (Nat.le_succ _) _) (Nat.le_succ _) _) _

set_option maxRecDepth 100000 in
set_option maxHeartbeats 2000000 in
theorem turnF_any (x : CL) (g g2 : Nat) (l o : Int) (w : World) (hg0 : w.cell? ⟨g, 0, none⟩ = some (.int .i64 l)) (hg1 : w.cell? ⟨g2, 0, none⟩ = some (.int .i64 o)) (h1 : (onR l o x).2 = none) :
    Calls Try.prog 42 #[.agg #[.int .i64 x.f0.f0, .int .i64 x.f0.f1, .int .i64 x.f1], .pointer (some ⟨g, 0, none⟩), .pointer (some ⟨g2, 0, none⟩)] w fun e w' => e = .returned (.tuple #[.agg #[.int .i64 (onR l o x).1.f0.f0, .int .i64 (onR l o x).1.f0.f1, .int .i64 (onR l o x).1.f1], .nilIface]) ∧ Below w.heap.size w w' := by
  have hon := fun W => on_any l o x W
  simp only [h1, errW_none] at hon
  have hlt := World.block_lt_of_cell? w ⟨g, 0, none⟩ hg0
  have hlt2 := World.block_lt_of_cell? w ⟨g2, 0, none⟩ hg1
  clear h1
  generalize (onR l o x).1.f0.f0 = p at hon ⊢
  generalize (onR l o x).1.f0.f1 = q at hon ⊢
  generalize (onR l o x).1.f1 = r at hon ⊢
  go_enter Try.func42, Try.ntmps42
  go_wp2_with fail
  obtain ⟨w2, hw2, hcc, _, hsz, hB2⟩ := two_new w #[.int .i64 x.f0.f0, .int .i64 x.f0.f1, .int .i64 x.f1] #[.int .i64 0, .int .i64 0, .int .i64 0] 37 37
  have hrb : w2.heap[w.heap.size + 1]? = some (.cells #[.int .i64 0, .int .i64 0, .int .i64 0] 37 (0, 0)) := by
    rw [hw2]
    have := blk_new (w.alloc (.cells #[.int .i64 x.f0.f0, .int .i64 x.f0.f1, .int .i64 x.f1] 37)) (.cells #[.int .i64 0, .int .i64 0, .int .i64 0] 37 (0, 0))
    simpa using this
  rw [← hw2]
  clear hw2
  have hz0 : w.heap.size < w2.heap.size := by omega
  have HB2 := Aside0.mk hB2
  have RB := Aside0.mk hrb
  clear hcc hB2 hrb hg0 hg1
  refine (hon _).mono ?_
  rintro e w3 ⟨rfl, hb3⟩
  have hr3 := blk_below RB.out hb3
  have q0 := blk_cell hr3 0
  have q1 := blk_cell hr3 1
  have q2 := blk_cell hr3 2
  have q3 := blk_frozen hr3
  have hz3 : w.heap.size + 1 < w3.heap.size := blk_lt hr3
  have RB3 := Aside0.mk hr3
  have HB3 := Aside0.mk (HB2.out.trans (hb3.mono HB2.out.size))
  clear hr3 hb3
  go_wp2
  have hr := blk_set (blk_set (blk_set RB3.out 0 (.int .i64 p)) 1 (.int .i64 q)) 2 (.int .i64 r)
  refine bodyPost_ret (results_ct rfl _ _ (w.heap.size + 1) 37 #[.int .i64 p, .int .i64 q, .int .i64 r] (0, 0) _ rfl hr Try.underlying37 rfl (by kernel_rfl)) rfl ⟨rfl, ?_⟩
  exact Below.setCell (p := ⟨w.heap.size + 1, 2, none⟩) (Below.setCell (p := ⟨w.heap.size + 1, 1, none⟩) (Below.setCell (p := ⟨w.heap.size + 1, 0, none⟩) HB3.out (Nat.le_succ _) _) (Nat.le_succ _) _) (Nat.le_succ _) _

def shOk (a b : Int) (x : CL) : Bool := decide (goodP x.f0.f0 x.f0.f1) && (decide (goodP a b) && decide (goodP (x.f0.f0 + a) (x.f0.f1 + b)))
def XShift.f (l : List CL) (a b : Int) : Option (List CL × Option Int) := if l.length < 1099511627776 then (if l.all (shOk a b) = true then some (ofL (l.map (sh a b)), none) else none) else none
def XTurn.f (l : List CL) (k o : Int) : Option (List CL × Option Int) := if l.length < 1099511627776 then (if (l.all fun x => (onR k o x).2 == none) = true then some (ofL (l.map fun x => (onR k o x).1), none) else none) else none

set_option maxRecDepth 100000 in
set_option maxHeartbeats 1000000 in
theorem XShift.calls (A0 : Option Addr) (c0 : Nat) (l0 : List S37) (a1_0 : Int) (a1_1 : Int) (r1 : List S37) (r2 : Option Int) (w : World) (hr0 : Kd.C k37 w A0 l0.length l0) (_hc0 : l0.length ≤ c0) (h : XShift.f l0 a1_0 a1_1 = some (r1, r2)) :
    Calls Try.prog 23 #[.slice A0 l0.length c0, .agg #[.int .i64 a1_0, .int .i64 a1_1]] w fun e w' => ∃ v0_ : Value, e = .returned (.tuple #[v0_, errW r2]) ∧ Kd.R k37 37 w' w.heap.size (fun _ => True) v0_ r1 ∧ Below w.heap.size w w' := by
  unfold XShift.f at h
  by_cases hn : l0.length < 1099511627776
  · rw [if_pos hn] at h
    by_cases hall : l0.all (shOk a1_0 a1_1) = true
    · rw [if_pos hall] at h
      simp only [Option.some.injEq, Prod.mk.injEq] at h
      obtain ⟨rfl, rfl⟩ := h
      have eg : ∀ args W, (callFunc 40 args).run Try.prog W = .ok (.enter 40 args) W := enters_of Try.func40 (by kernel_rfl) rfl
      have hAll : ∀ x ∈ l0, goodP x.f0.f0 x.f0.f1 ∧ goodP a1_0 a1_1 ∧ goodP (x.f0.f0 + a1_0) (x.f0.f1 + a1_1) := fun x hx => by
        have := List.all_eq_true.1 hall x hx
        simpa [shOk] using this
      have HALL := Aside0.mk hAll
      have HR := Aside0.mk hr0
      have EG := Aside0.mk eg
      clear hAll hall hr0 eg
      rw [errW_none]
      go_enter Try.func23, Try.ntmps23
      go_wp2_with fail
      obtain ⟨w1, hw1, hcc, hsz, hB1⟩ := one_new w #[.int .i64 a1_0, .int .i64 a1_1] 35
      rw [← hw1]
      clear hw1
      have C0 : Aside0 (w1.cell? ⟨w.heap.size, 0, none⟩ = some (.int .i64 a1_0) ∧ w1.cell? ⟨w.heap.size, 1, none⟩ = some (.int .i64 a1_1)) := Aside0.mk ⟨hcc 0 _ rfl, hcc 1 _ rfl⟩
      have HB1 := Aside0.mk hB1
      clear hcc
      refine (each_ok l0 (sh a1_0 a1_1) 40 #[.pointer (some ⟨w.heap.size, 0, none⟩)] A0 c0 w1 (Kd.C_below HR.out hB1) hn EG.out (fun x hx W hW => shiftF_any x w.heap.size a1_0 a1_1 W (pw_cell_below hW C0.out.1) (pw_cell_below hW C0.out.2) (HALL.out x hx).1 (HALL.out x hx).2.1 (HALL.out x hx).2.2)).mono ?_
      rintro e w2 ⟨v, rfl, ho, hb2⟩
      have HO := Aside0.mk ho
      have HB2 := Aside0.mk (HB1.out.trans (hb2.mono HB1.out.size))
      clear ho hb2 hB1
      go_wp2
      go_ret2
      exact ⟨_, rfl, Kd.R_lower HO.out HB1.out.size, HB2.out⟩
    · rw [if_neg hall] at h
      cases h
  · rw [if_neg hn] at h
    cases h

set_option maxRecDepth 100000 in
set_option maxHeartbeats 1000000 in
theorem XTurn.calls (A0 : Option Addr) (c0 : Nat) (l0 : List S37) (a1 : Int) (a2 : Int) (r1 : List S37) (r2 : Option Int) (w : World) (hr0 : Kd.C k37 w A0 l0.length l0) (_hc0 : l0.length ≤ c0) (h : XTurn.f l0 a1 a2 = some (r1, r2)) :
    Calls Try.prog 24 #[.slice A0 l0.length c0, .int .i64 a1, .int .i64 a2] w fun e w' => ∃ v0_ : Value, e = .returned (.tuple #[v0_, errW r2]) ∧ Kd.R k37 37 w' w.heap.size (fun _ => True) v0_ r1 ∧ Below w.heap.size w w' := by
  unfold XTurn.f at h
  by_cases hn : l0.length < 1099511627776
  · rw [if_pos hn] at h
    by_cases hall : (l0.all fun x => (onR a1 a2 x).2 == none) = true
    · rw [if_pos hall] at h
      simp only [Option.some.injEq, Prod.mk.injEq] at h
      obtain ⟨rfl, rfl⟩ := h
      have eg : ∀ args W, (callFunc 42 args).run Try.prog W = .ok (.enter 42 args) W := enters_of Try.func42 (by kernel_rfl) rfl
      have hAll : ∀ x ∈ l0, (onR a1 a2 x).2 = none := fun x hx => by
        have := List.all_eq_true.1 hall x hx
        simpa using this
      have HALL := Aside0.mk hAll
      have HR := Aside0.mk hr0
      have EG := Aside0.mk eg
      clear hAll hall hr0 eg
      rw [errW_none]
      go_enter Try.func24, Try.ntmps24
      go_wp2_with fail
      obtain ⟨w1, hw1, hcc, hdd, hsz, hB1⟩ := two_new w #[.int .i64 a1] #[.int .i64 a2] 50 53
      rw [← hw1]
      clear hw1
      have C0 : Aside0 (w1.cell? ⟨w.heap.size, 0, none⟩ = some (.int .i64 a1) ∧ w1.cell? ⟨w.heap.size + 1, 0, none⟩ = some (.int .i64 a2)) := Aside0.mk ⟨hcc 0 _ rfl, hdd 0 _ rfl⟩
      have HB1 := Aside0.mk hB1
      clear hcc hdd
      refine (each_ok l0 (fun x => (onR a1 a2 x).1) 42 #[.pointer (some ⟨w.heap.size, 0, none⟩), .pointer (some ⟨w.heap.size + 1, 0, none⟩)] A0 c0 w1 (Kd.C_below HR.out hB1) hn EG.out (fun x hx W hW => turnF_any x w.heap.size (w.heap.size + 1) a1 a2 W (pw_cell_below hW C0.out.1) (pw_cell_below hW C0.out.2) (HALL.out x hx))).mono ?_
      rintro e w2 ⟨v, rfl, ho, hb2⟩
      have HO := Aside0.mk ho
      have HB2 := Aside0.mk (HB1.out.trans (hb2.mono HB1.out.size))
      clear ho hb2 hB1
      go_wp2
      go_ret2
      exact ⟨_, rfl, Kd.R_lower HO.out HB1.out.size, HB2.out⟩
    · rw [if_neg hall] at h
      cases h
  · rw [if_neg hn] at h
    cases h
end Go.Proofs.Ytpekdgdogmaohaa
