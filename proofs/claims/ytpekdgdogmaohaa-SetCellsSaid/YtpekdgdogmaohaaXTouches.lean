/- touches: has each side of a box a cell? -/
import Derived.Test.YtpekdgdogmaohaaOrd
import Derived.BigRegion
namespace Go.Proofs.Ytpekdgdogmaohaa
open Go.RowKit Go.Proofs.YtpekdgdogmaohaaW.PrintWords Go.Proofs.YtpekdgdogmaohaaW.PrintLast Go.Proofs.YtpekdgdogmaohaaW.PrintMore
open H
open Go.Shelf Go.RowKit Go.Lib Go.Sort

abbrev RCs := List S24
def tc (p : S24 → Bool) (l : RCs) : Nat := (l.filter p).length
theorem tc_le (p : S24 → Bool) (l : RCs) : tc p l ≤ l.length := List.length_filter_le _ _
theorem tc_succ (p : S24 → Bool) (l : RCs) (j : Nat) (hj : j < l.length) : tc p (l.take (j + 1)) = tc p (l.take j) + (if p l[j] = true then 1 else 0) := by
  unfold tc
  rw [List.take_add_one, List.getElem?_eq_getElem hj, List.filter_append, List.length_append]
  congr 1
  by_cases h : p l[j] = true
  · simp [h]
  · simp [h]
theorem tc_pos (p : S24 → Bool) (l : RCs) : 0 < tc p l ↔ ∃ x ∈ l, p x = true := by
  unfold tc
  rw [List.length_pos_iff_exists_mem]
  simp only [List.mem_filter]
def tch (l : RCs) (b1 b2 b3 b4 : Int) : Bool := decide (0 < tc (fun x => x.f0 == b1) l) && (decide (0 < tc (fun x => x.f0 == b3) l) && (decide (0 < tc (fun x => x.f1 == b2) l) && decide (0 < tc (fun x => x.f1 == b4) l)))
set_option maxRecDepth 100000 in
set_option maxHeartbeats 4000000 in
theorem touches_any (l : RCs) (b1 b2 b3 b4 : Int) (A0 : Option Addr) (c0 : Nat) (w : World) (hr0 : Kd.C k24 w A0 l.length l) (hn : l.length < 1099511627776) :
    Calls Try.prog 20 #[.slice A0 l.length c0, .agg #[.int .i64 b1, .int .i64 b2, .int .i64 b3, .int .i64 b4]] w fun e w' => e = .returned (.bool (tch l b1 b2 b3 b4)) ∧ Below w.heap.size w w' := by
  have HR := Aside0.mk hr0
  clear hr0
  generalize hT : tch l b1 b2 b3 b4 = T
  have HT := Aside0.mk hT
  clear hT
  go_enter Try.func20, Try.ntmps20
  go_wp2_with fail
  obtain ⟨w2, hw2⟩ : ∃ w2, w2 = (w.alloc (.cells #[.int .i64 b1, .int .i64 b2, .int .i64 b3, .int .i64 b4] 43)).alloc (.cells #[.int .i64 0, .int .i64 0, .int .i64 0, .int .i64 0] 73) := ⟨_, rfl⟩
  have hbx : w2.heap[w.heap.size]? = some (.cells #[.int .i64 b1, .int .i64 b2, .int .i64 b3, .int .i64 b4] 43 (0, 0)) := by
    rw [hw2]
    exact blk_alloc (blk_new w _) _
  have hsz1 : (w.alloc (.cells #[.int .i64 b1, .int .i64 b2, .int .i64 b3, .int .i64 b4] 43)).heap.size = w.heap.size + 1 := by simp
  have hnn : w2.heap[w.heap.size + 1]? = some (.cells #[.int .i64 0, .int .i64 0, .int .i64 0, .int .i64 0] 73 (0, 0)) := by
    rw [hw2, ← hsz1]
    exact blk_new _ _
  have hB2 : Below w.heap.size w w2 := by
    rw [hw2]
    exact below_alloc (below_alloc (Below.refl _ _) _) _
  rw [← hw2]
  clear hw2 hsz1
  have BX := Aside0.mk hbx
  have NN := Aside0.mk hnn
  have HB2 := Aside0.mk hB2
  have R2 := Aside0.mk (Kd.C_below HR.out hB2)
  have hz2 := blk_lt hnn
  clear hbx hnn hB2
  go_loopw [13] (fun i wr => ∃ j : Nat, j ≤ l.length ∧ i = .int .i64 j ∧ wr.heap[w.heap.size + 1]? = some (.cells #[.int .i64 (tc (fun x => x.f0 == b1) (l.take j) : Nat), .int .i64 (tc (fun x => x.f0 == b3) (l.take j) : Nat), .int .i64 (tc (fun x => x.f1 == b2) (l.take j) : Nat), .int .i64 (tc (fun x => x.f1 == b4) (l.take j) : Nat)] 73 (0, 0)) ∧ Below (w.heap.size + 1) w2 wr) (fun i _ => l.length - (intOf i).toNat)
  case atStart => exact ⟨0, by omega, rfl, NN.out, Below.refl _ _⟩
  case round =>
    obtain ⟨j, hj, rfl, hnb, hB⟩ := hrel
    have hbxr : wr.heap[w.heap.size]? = some (.cells #[.int .i64 b1, .int .i64 b2, .int .i64 b3, .int .i64 b4] 43 (0, 0)) := (hB.block w.heap.size (by omega)).trans BX.out
    have RR := Aside0.mk (Kd.C_below HR.out (HB2.out.trans (hB.mono (by omega))))
    have hzr := hB.size
    have NB := Aside0.mk hnb
    have HBR := Aside0.mk hB
    clear hB
    by_cases hlt : j < l.length
    · obtain ⟨ad, e2, a0, a1, a2⟩ := at_T24 RR.out j (by omega) (by omega)
      subst e2
      rw [Int.toNat_natCast] at a0 a1 a2
      have hx2 : rd_T24 l j = l[j] := by simp [rd_T24, hlt]
      have s0 : tc (fun x => x.f0 == b1) (l.take (j + 1)) = tc (fun x => x.f0 == b1) (l.take j) + (if (l[j].f0 == b1) = true then 1 else 0) := tc_succ (fun x => x.f0 == b1) l j hlt
      have s1 : tc (fun x => x.f0 == b3) (l.take (j + 1)) = tc (fun x => x.f0 == b3) (l.take j) + (if (l[j].f0 == b3) = true then 1 else 0) := tc_succ (fun x => x.f0 == b3) l j hlt
      have s2 : tc (fun x => x.f1 == b2) (l.take (j + 1)) = tc (fun x => x.f1 == b2) (l.take j) + (if (l[j].f1 == b2) = true then 1 else 0) := tc_succ (fun x => x.f1 == b2) l j hlt
      have s3 : tc (fun x => x.f1 == b4) (l.take (j + 1)) = tc (fun x => x.f1 == b4) (l.take j) + (if (l[j].f1 == b4) = true then 1 else 0) := tc_succ (fun x => x.f1 == b4) l j hlt
      have c0 := tc_le (fun x => x.f0 == b1) (l.take j)
      have c1 := tc_le (fun x => x.f0 == b3) (l.take j)
      have c2 := tc_le (fun x => x.f1 == b2) (l.take j)
      have c3 := tc_le (fun x => x.f1 == b4) (l.take j)
      have htl : (l.take j).length ≤ l.length := by rw [List.length_take]; omega
      rw [hx2] at a0 a1 a2
      have S0 := Aside0.mk s0
      have S1 := Aside0.mk s1
      have S2 := Aside0.mk s2
      have S3 := Aside0.mk s3
      have C0 := Aside0.mk (Nat.le_trans c0 htl)
      have C1 := Aside0.mk (Nat.le_trans c1 htl)
      have C2 := Aside0.mk (Nat.le_trans c2 htl)
      have C3 := Aside0.mk (Nat.le_trans c3 htl)
      clear s0 s1 s2 s3 c0 c1 c2 c3 hx2 htl
      generalize l[j] = x at a0 a1 a2 S0 S1 S2 S3
      generalize tc (fun x => x.f0 == b1) (l.take j) = n0 at NB S0 C0
      generalize tc (fun x => x.f0 == b3) (l.take j) = n1 at NB S1 C1
      generalize tc (fun x => x.f1 == b2) (l.take j) = n2 at NB S2 C2
      generalize tc (fun x => x.f1 == b4) (l.take j) = n3 at NB S3 C3
      have BXR := Aside0.mk hbxr
      clear hnb hbxr
      go_upto_region 5 with (fail)
      obtain ⟨w5, hw5, hcc5, hsz5, hB5⟩ := one_new wr #[.int .i64 x.f0, .int .i64 x.f1, .int .i64 x.f2] 24
      rw [← hw5]
      have y0 : w5.cell? ⟨wr.heap.size, 0, none⟩ = some (.int .i64 x.f0) := hcc5 0 _ rfl
      have y1 : w5.cell? ⟨wr.heap.size, 1, none⟩ = some (.int .i64 x.f1) := hcc5 1 _ rfl
      have hbx5 := blk_below BXR.out hB5
      have q0 := blk_cell hbx5 0
      have q1 := blk_cell hbx5 1
      have q2 := blk_cell hbx5 2
      have q3 := blk_cell hbx5 3
      simp at q0 q1 q2 q3
      have N5 := Aside0.mk (blk_below NB.out hB5)
      have B5 := Aside0.mk (HBR.out.trans (hB5.mono (by omega)))
      clear hw5 hcc5 hB5 a0 a1 a2 hbx5
      go_wp2_with fail
      obtain ⟨w6, hw6⟩ : ∃ w6, w6 = w5.alloc (.cells #[.bool (x.f0 == b1), .bool (x.f0 == b3), .bool (x.f1 == b2), .bool (x.f1 == b4)] 4) := ⟨_, rfl⟩
      have hbb : w6.heap[w5.heap.size]? = some (.cells #[.bool (x.f0 == b1), .bool (x.f0 == b3), .bool (x.f1 == b2), .bool (x.f1 == b4)] 4 (0, 0)) := by
        rw [hw6]
        exact blk_new _ _
      have N6 := Aside0.mk (blk_alloc N5.out (.cells #[.bool (x.f0 == b1), .bool (x.f0 == b3), .bool (x.f1 == b2), .bool (x.f1 == b4)] 4))
      rw [← hw6] at N6
      have B6 := Aside0.mk (show Below (w.heap.size + 1) w2 w6 from by rw [hw6]; exact below_alloc2 B5.out (by omega) _)
      rw [← hw6]
      clear hw6 N5 B5 q0 q1 q2 q3 y0 y1
      generalize (x.f0 == b1) = h0 at hbb S0 ⊢
      generalize (x.f0 == b3) = h1 at hbb S1 ⊢
      generalize (x.f1 == b2) = h2 at hbb S2 ⊢
      generalize (x.f1 == b4) = h3 at hbb S3 ⊢
      have BB := Aside0.mk hbb
      have hzb : ¬ w.heap.size + 1 = w5.heap.size := by omega
      clear hbb
      go_loopw [43] (fun s ws => ∃ (i m0 m1 m2 m3 : Nat), i ≤ 4 ∧ s = .int .i64 i ∧ m0 = n0 + (if 0 < i ∧ h0 = true then 1 else 0) ∧ m1 = n1 + (if 1 < i ∧ h1 = true then 1 else 0) ∧ m2 = n2 + (if 2 < i ∧ h2 = true then 1 else 0) ∧ m3 = n3 + (if 3 < i ∧ h3 = true then 1 else 0) ∧ ws.heap[w5.heap.size]? = some (.cells #[.bool h0, .bool h1, .bool h2, .bool h3] 4 (0, 0)) ∧ ws.heap[w.heap.size + 1]? = some (.cells #[.int .i64 ((m0 : Nat) : Int), .int .i64 ((m1 : Nat) : Int), .int .i64 ((m2 : Nat) : Int), .int .i64 ((m3 : Nat) : Int)] 73 (0, 0)) ∧ Below (w.heap.size + 1) w2 ws) (fun s _ => 4 - (intOf s).toNat)
      case atStart => exact ⟨0, n0, n1, n2, n3, by omega, rfl, by simp, by simp, by simp, by simp, BB.out, N6.out, B6.out⟩
      case round =>
        obtain ⟨i, m0, m1, m2, m3, hi, rfl, e0, e1, e2, e3, hbb, hnn, hbw⟩ := hrel
        have E0 := Aside0.mk e0
        have E1 := Aside0.mk e1
        have E2 := Aside0.mk e2
        have E3 := Aside0.mk e3
        have BB' := Aside0.mk hbb
        have NN' := Aside0.mk hnn
        have BW' := Aside0.mk hbw
        have hmm : m0 ≤ n0 + 1 ∧ m1 ≤ n1 + 1 ∧ m2 ≤ n2 + 1 ∧ m3 ≤ n3 + 1 := by
          refine ⟨?_, ?_, ?_, ?_⟩
          · rw [e0]; split <;> omega
          · rw [e1]; split <;> omega
          · rw [e2]; split <;> omega
          · rw [e3]; split <;> omega
        clear e0 e1 e2 e3 hbw
        by_cases h4 : i < 4
        · have hcs : i = 0 ∨ i = 1 ∨ i = 2 ∨ i = 3 := by omega
          rcases hcs with rfl | rfl | rfl | rfl
          · have gb := blk_cell hbb 0
            have gn := blk_cell hnn 0
            have gf := blk_frozen hnn 0
            have gw : IntKind.i64.wrap ((m0 : Int) + 1) = (m0 : Int) + 1 := by
              have := C0.out
              rw [IntKind.wrap_i64]; omega
            simp at gb gn gf
            clear hbb hnn
            cases h0
            · go_wp2
              go_roundw
              case rel => exact ⟨1, m0, m1, m2, m3, by omega, by first | rfl | go_num, (by rw [E0.out]; simp), (by rw [E1.out]; simp), (by rw [E2.out]; simp), (by rw [E3.out]; simp), BB'.out, NN'.out, BW'.out⟩
              case measure => simp [intOf]
            · go_wp2
              go_roundw
              case rel => exact ⟨1, m0 + 1, m1, m2, m3, by omega, by first | rfl | go_num, (by rw [E0.out]; simp), (by rw [E1.out]; simp), (by rw [E2.out]; simp), (by rw [E3.out]; simp), blk_far BB'.out (fun h => hzb h.symm) _, blk_put NN'.out 0 _ rfl, Below.setCell (p := ⟨w.heap.size + 1, 0, none⟩) BW'.out (Nat.le_refl _) _⟩
              case measure => simp [intOf]
          · have gb := blk_cell hbb 1
            have gn := blk_cell hnn 1
            have gf := blk_frozen hnn 1
            have gw : IntKind.i64.wrap ((m1 : Int) + 1) = (m1 : Int) + 1 := by
              have := C1.out
              rw [IntKind.wrap_i64]; omega
            simp at gb gn gf
            clear hbb hnn
            cases h1
            · go_wp2
              go_roundw
              case rel => exact ⟨2, m0, m1, m2, m3, by omega, by first | rfl | go_num, (by rw [E0.out]; simp), (by rw [E1.out]; simp), (by rw [E2.out]; simp), (by rw [E3.out]; simp), BB'.out, NN'.out, BW'.out⟩
              case measure => simp [intOf]
            · go_wp2
              go_roundw
              case rel => exact ⟨2, m0, m1 + 1, m2, m3, by omega, by first | rfl | go_num, (by rw [E0.out]; simp), (by rw [E1.out]; simp), (by rw [E2.out]; simp), (by rw [E3.out]; simp), blk_far BB'.out (fun h => hzb h.symm) _, blk_put NN'.out 1 _ rfl, Below.setCell (p := ⟨w.heap.size + 1, 1, none⟩) BW'.out (Nat.le_refl _) _⟩
              case measure => simp [intOf]
          · have gb := blk_cell hbb 2
            have gn := blk_cell hnn 2
            have gf := blk_frozen hnn 2
            have gw : IntKind.i64.wrap ((m2 : Int) + 1) = (m2 : Int) + 1 := by
              have := C2.out
              rw [IntKind.wrap_i64]; omega
            simp at gb gn gf
            clear hbb hnn
            cases h2
            · go_wp2
              go_roundw
              case rel => exact ⟨3, m0, m1, m2, m3, by omega, by first | rfl | go_num, (by rw [E0.out]; simp), (by rw [E1.out]; simp), (by rw [E2.out]; simp), (by rw [E3.out]; simp), BB'.out, NN'.out, BW'.out⟩
              case measure => simp [intOf]
            · go_wp2
              go_roundw
              case rel => exact ⟨3, m0, m1, m2 + 1, m3, by omega, by first | rfl | go_num, (by rw [E0.out]; simp), (by rw [E1.out]; simp), (by rw [E2.out]; simp), (by rw [E3.out]; simp), blk_far BB'.out (fun h => hzb h.symm) _, blk_put NN'.out 2 _ rfl, Below.setCell (p := ⟨w.heap.size + 1, 2, none⟩) BW'.out (Nat.le_refl _) _⟩
              case measure => simp [intOf]
          · have gb := blk_cell hbb 3
            have gn := blk_cell hnn 3
            have gf := blk_frozen hnn 3
            have gw : IntKind.i64.wrap ((m3 : Int) + 1) = (m3 : Int) + 1 := by
              have := C3.out
              rw [IntKind.wrap_i64]; omega
            simp at gb gn gf
            clear hbb hnn
            cases h3
            · go_wp2
              go_roundw
              case rel => exact ⟨4, m0, m1, m2, m3, by omega, by first | rfl | go_num, (by rw [E0.out]; simp), (by rw [E1.out]; simp), (by rw [E2.out]; simp), (by rw [E3.out]; simp), BB'.out, NN'.out, BW'.out⟩
              case measure => simp [intOf]
            · go_wp2
              go_roundw
              case rel => exact ⟨4, m0, m1, m2, m3 + 1, by omega, by first | rfl | go_num, (by rw [E0.out]; simp), (by rw [E1.out]; simp), (by rw [E2.out]; simp), (by rw [E3.out]; simp), blk_far BB'.out (fun h => hzb h.symm) _, blk_put NN'.out 3 _ rfl, Below.setCell (p := ⟨w.heap.size + 1, 3, none⟩) BW'.out (Nat.le_refl _) _⟩
              case measure => simp [intOf]
        · obtain rfl : i = 4 := by omega
          clear hbb hnn
          go_wp2
          go_roundw
          case rel =>
            refine ⟨j + 1, by omega, by go_num, ?_, BW'.out⟩
            rw [S0.out, S1.out, S2.out, S3.out]
            have := NN'.out
            rw [E0.out, E1.out, E2.out, E3.out] at this
            simpa using this
          case measure => simp [intOf]; omega
    · obtain rfl : j = l.length := by omega
      have q0 := blk_cell NB.out 0
      have q1 := blk_cell NB.out 1
      have q2 := blk_cell NB.out 2
      have q3 := blk_cell NB.out 3
      rw [List.take_length] at q0 q1 q2 q3
      simp at q0 q1 q2 q3
      clear NB
      have HBF := Aside0.mk (HB2.out.trans (HBR.out.mono (by omega)))
      clear hnb
      have HT' : T = (decide (0 < tc (fun x => x.f0 == b1) l) && (decide (0 < tc (fun x => x.f0 == b3) l) && (decide (0 < tc (fun x => x.f1 == b2) l) && decide (0 < tc (fun x => x.f1 == b4) l)))) := HT.out.symm
      generalize tc (fun x => x.f0 == b1) l = n0 at *
      generalize tc (fun x => x.f0 == b3) l = n1 at *
      generalize tc (fun x => x.f1 == b2) l = n2 at *
      generalize tc (fun x => x.f1 == b4) l = n3 at *
      have p0 : decide ((0 : Int) < (n0 : Int)) = decide (0 < n0) := by simp
      have p1 : decide ((0 : Int) < (n1 : Int)) = decide (0 < n1) := by simp
      have p2 : decide ((0 : Int) < (n2 : Int)) = decide (0 < n2) := by simp
      have p3 : decide ((0 : Int) < (n3 : Int)) = decide (0 < n3) := by simp
      have HT2 := Aside0.mk HT'
      clear HT'
      go_wp2
      all_goals
        go_ret
        refine ⟨?_, HBF.out⟩
        rw [HT2.out]
        clear q0 q1 q2 q3 p0 p1 p2 p3
        simp [*]
def XTouches.f (l : RCs) (b1 b2 b3 b4 : Int) : Option Bool := if l.length < 1099511627776 then some (tch l b1 b2 b3 b4) else none
theorem XTouches.calls (A0 : Option Addr) (c0 : Nat) (l0 : List S24) (a1_0 : Int) (a1_1 : Int) (a1_2 : Int) (a1_3 : Int) (r : Bool) (w : World) (hr0 : Kd.C k24 w A0 l0.length l0) (_hc0 : l0.length ≤ c0) (h : XTouches.f l0 a1_0 a1_1 a1_2 a1_3 = some r) :
    Calls Try.prog 20 #[.slice A0 l0.length c0, .agg #[.int .i64 a1_0, .int .i64 a1_1, .int .i64 a1_2, .int .i64 a1_3]] w fun e w' => e = .returned (.bool r) ∧ Below w.heap.size w w' := by
  unfold XTouches.f at h
  by_cases hn : l0.length < 1099511627776
  · rw [if_pos hn] at h
    obtain rfl := Option.some.inj h
    exact touches_any l0 _ _ _ _ A0 c0 w hr0 hn
  · rw [if_neg hn] at h
    cases h
end Go.Proofs.Ytpekdgdogmaohaa
