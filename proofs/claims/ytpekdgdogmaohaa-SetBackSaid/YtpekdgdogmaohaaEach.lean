/- (Set).each where all can be brought; (Set).Shift, (Set).Turn then. -/
import Derived.Test.YtpekdgdogmaohaaOrd
import Derived.Test.YtpekdgdogmaohaaOnP
namespace Go.Proofs.Ytpekdgdogmaohaa
open Go.RowKit Go.Proofs.YtpekdgdogmaohaaW.PrintWords Go.Proofs.YtpekdgdogmaohaaW.PrintLast Go.Proofs.YtpekdgdogmaohaaW.PrintMore
open H
open Go.Shelf Go.RowKit Go.Lib Go.Sort

def agC (x : CL) : Value := .agg #[.int .i64 x.f0.f0, .int .i64 x.f0.f1, .int .i64 x.f1]
set_option maxRecDepth 100000 in
set_option maxHeartbeats 2000000 in
theorem each_ok (l : List CL) (mv : CL → CL) (fn : FuncId) (cb : Array Value) (A0 : Option Addr) (c0 : Nat) (w : World) (hr0 : Kd.C k37 w A0 l.length l) (hn : l.length < 1099511627776)
    (eg : ∀ args W, (callFunc fn args).run Try.prog W = .ok (.enter fn args) W)
    (hmv : ∀ x ∈ l, ∀ W, Below w.heap.size w W → Calls Try.prog fn (#[.agg #[.int .i64 x.f0.f0, .int .i64 x.f0.f1, .int .i64 x.f1]] ++ cb) W fun e w' => e = .returned (.tuple #[.agg #[.int .i64 (mv x).f0.f0, .int .i64 (mv x).f0.f1, .int .i64 (mv x).f1], .nilIface]) ∧ Below W.heap.size W w') :
    Calls Try.prog 39 #[.slice A0 l.length c0, .func (.func fn) #[] cb] w fun e w' => ∃ v, e = .returned (.tuple #[v, .nilIface]) ∧ Kd.R k37 37 w' w.heap.size (fun _ => True) v (ofL (l.map mv)) ∧ Below w.heap.size w w' := by
  have HR := Aside0.mk hr0
  have HMV := Aside0.mk hmv
  have hof : ∀ (A : Option Addr) (c : Nat) W (_ : Kd.C k37 W A (l.map mv).length (l.map mv)) (_ : (l.map mv).length ≤ c), Calls Try.prog 8 #[.slice A l.length c] W fun e w' => ∃ v0_ : Value, e = .returned v0_ ∧ Kd.R k37 37 w' W.heap.size (fun _ => True) v0_ (ofL (l.map mv)) ∧ Below W.heap.size W w' := fun A c W hC hc => by
    have := XOf.calls A c (l.map mv) (ofL (l.map mv)) W hC hc (by simp [XOf.f]; omega)
    rw [List.length_map] at this
    exact this
  have HOF := Aside0.mk hof
  clear hr0 hmv hof
  go_enter Try.func39, Try.ntmps39
  go_wp2_with fail
  go_loopw [6, 13] (fun v i wr => ∃ k : Nat, k ≤ l.length ∧ i = .int .i64 k ∧ Kd.R k37 37 wr w.heap.size (fun _ => True) v ((l.take k).map mv) ∧ Below w.heap.size w wr) (fun _ i _ => l.length - (intOf i).toNat)
  case atStart => exact ⟨0, by omega, rfl, by simp; exact Kd.R_nil _ _ _ _ _, Below.refl _ _⟩
  case round =>
    obtain ⟨k, hk, rfl, hO, hB⟩ := hrel
    have HO := Aside0.mk hO
    have HB := Aside0.mk hB
    have hzr := hB.size
    have R2 := Aside0.mk (Kd.C_below HR.out hB)
    clear hO hB
    by_cases hlt : k < l.length
    · obtain ⟨ad, rfl, a0, a1, a2⟩ := at_T37 R2.out k (by omega) (by omega)
      rw [Int.toNat_natCast] at a0 a1 a2
      have hx : rd_T37 l k = l[k] := by simp [rd_T37, hlt]
      have hcl := fun W hW => HMV.out l[k] (List.getElem_mem hlt) W hW
      have htk : (l.take (k + 1)).map mv = (l.take k).map mv ++ [mv l[k]] := by
        rw [List.take_add_one, List.getElem?_eq_getElem hlt, List.map_append]
        rfl
      rw [hx] at a0 a1 a2
      generalize l[k] = x at a0 a1 a2 hcl htk
      generalize mv x = y at hcl htk
      have HCL := Aside0.mk hcl
      have HTK := Aside0.mk htk
      clear hx hcl htk
      go_wp2_with fail
      refine (HCL.out _ (below_alloc2 HB.out hzr _)).mono ?_
      rintro e w2 ⟨rfl, hb2⟩
      have hz2 := hb2.size
      rw [World.size_alloc] at hz2
      have HO2 := Aside0.mk (Kd.R_below (Kd.R_alloc HO.out _) hb2)
      have HB2 := Aside0.mk ((below_alloc2 HB.out hzr _).trans (hb2.mono (by rw [World.size_alloc]; omega)))
      clear hb2
      go_wp2_with (at_builtin; refine app1 k37 w.heap.size (.tmp 29) (.tmp 31) 28 37 (.agg #[.int .i64 0, .int .i64 0, .int .i64 0]) 24 (w0 := w) _ ((l.take k).map mv) y [.int .i64 y.f0.f0, .int .i64 y.f0.f1, .int .i64 y.f1] _ rfl rfl Try.underlying28 info37 rfl (by decide) (by decide) rfl (by simp; done) rfl (k37_mkM _ _ _ _) (Kd.R_alloc HO2.out _) (below_alloc2 HB2.out (by omega) _) (by simp; omega) (by simp; omega) ?_; intro v1 w4 ho4 hb4; have HO4 := Aside0.mk ho4; have HB4 := Aside0.mk hb4; clear ho4 hb4)
      go_roundw
      case rel => exact ⟨k + 1, by omega, by go_num, by rw [HTK.out]; exact HO4.out, HB4.out⟩
      case measure => simp [intOf]; omega
    · obtain rfl : k = l.length := by omega
      have hO3 := HO.out
      rw [List.take_length] at hO3
      obtain ⟨A3, c3, rfl, hl3, hc3⟩ := Kd.R_reads hO3
      have HC3 := Aside0.mk hc3
      have HL3 := Aside0.mk hl3
      clear hO3 hc3 hl3
      go_wp2_with (go_at_call 8; refine (HOF.out A3 c3 _ HC3.out HL3.out).mono ?_; rintro e w5 ⟨v5, rfl, ho5, hb5⟩; have HO5 := Aside0.mk ho5; have HB5 := Aside0.mk (HB.out.trans (hb5.mono hzr)); clear ho5 hb5)
      go_ret2
      exact ⟨_, rfl, Kd.R_lower HO5.out hzr, HB5.out⟩
end Go.Proofs.Ytpekdgdogmaohaa
