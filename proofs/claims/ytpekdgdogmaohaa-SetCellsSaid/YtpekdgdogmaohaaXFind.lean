/- (Set).find, as the printed texts call it. -/
import Derived.Test.YtpekdgdogmaohaaFind
import Derived.Test.YtpekdgdogmaohaaOrd
namespace Go.Proofs.Ytpekdgdogmaohaa
open Go.RowKit Go.Proofs.YtpekdgdogmaohaaW.PrintWords Go.Proofs.YtpekdgdogmaohaaW.PrintLast Go.Proofs.YtpekdgdogmaohaaW.PrintMore
open H
open Go.Shelf Go.RowKit Go.Lib Go.Sort

def XFind.f (l : List CL) (a b h : Int) : Option (Int × Bool) := if l.length < 1099511627776 then (if Srt l then some ((lo l (mk a b h) : Nat), decide (mk a b h ∈ l)) else none) else none
set_option maxRecDepth 100000 in
set_option maxHeartbeats 1000000 in
theorem XFind.calls (A0 : Option Addr) (c0 : Nat) (l0 : List S37) (a1_0 : Int) (a1_1 : Int) (a1_2 : Int) (r1 : Int) (r2 : Bool) (w : World) (hr0 : Kd.C k37 w A0 l0.length l0) (_hc0 : l0.length ≤ c0) (h : XFind.f l0 a1_0 a1_1 a1_2 = some (r1, r2)) :
    Calls Try.prog 32 #[.slice A0 l0.length c0, .agg #[.int .i64 a1_0, .int .i64 a1_1, .int .i64 a1_2]] w fun e w' => e = .returned (.tuple #[.int .i64 r1, .bool r2]) ∧ Below w.heap.size w w' := by
  unfold XFind.f at h
  by_cases hn : l0.length < 1099511627776
  · rw [if_pos hn] at h
    by_cases hs : Srt l0
    · rw [if_pos hs] at h
      simp only [Option.some.injEq, Prod.mk.injEq] at h
      obtain ⟨rfl, rfl⟩ := h
      have hbs := fun W hC => bsearch_any l0 (mk a1_0 a1_1 a1_2) (lo l0 (mk a1_0 a1_1 a1_2)) (decide (mk a1_0 a1_1 a1_2 ∈ l0)) A0 c0 W hC hn (lo_le _ _) (fun j hj => lo_iff hs _ j hj) (by rw [lo_has hs]; simp)
      have HBS := Aside0.mk hbs
      have HR := Aside0.mk hr0
      clear hbs hr0
      go_enter Try.func32, Try.ntmps32
      go_wp2_with fail
      obtain ⟨w1, hw1, hcc, hsz, hB1⟩ := one_new w #[.int .i64 a1_0, .int .i64 a1_1, .int .i64 a1_2] 37
      rw [← hw1]
      clear hw1 hcc
      have HB1 := Aside0.mk hB1
      refine (HBS.out w1 (Kd.C_below HR.out hB1)).mono ?_
      rintro e w2 ⟨rfl, hb2⟩
      have HB2 := Aside0.mk (HB1.out.trans (hb2.mono HB1.out.size))
      clear hb2 hB1
      go_wp2
      go_ret2
      exact ⟨rfl, HB2.out⟩
    · rw [if_neg hs] at h
      cases h
  · rw [if_neg hn] at h
    cases h
end Go.Proofs.Ytpekdgdogmaohaa
