/- slices.Delete of one cell out of a row of the call's own. -/
import Derived.Test.YtpekdgdogmaohaaXIns
import Derived.Deep.RegionLaw
namespace Go.Proofs.Ytpekdgdogmaohaa
open Go.RowKit Go.Proofs.YtpekdgdogmaohaaW.PrintWords Go.Proofs.YtpekdgdogmaohaaW.PrintLast Go.Proofs.YtpekdgdogmaohaaW.PrintMore
open H
open Go.Shelf Go.RowKit Go.Lib Go.Sort

def delAt (l : CLs) (i : Nat) : CLs := l.take i ++ l.drop (i + 1)
theorem delAt_length (l : CLs) (i : Nat) (hi : i < l.length) : (delAt l i).length = l.length - 1 := by
  unfold delAt
  rw [List.length_append, List.length_take, List.length_drop]; omega

theorem clear_one (w : World) (g k : Nat) (hs : ∀ j, j < 3 → (w.cell? ⟨g, k * 3 + j, none⟩).isSome = true) (hf : ∀ j, w.frozen? ⟨g, j, none⟩ = false) (ty : TypeId) (c : Nat) :
    (Builtin.clear_ #[28] ty #[.slice (some ⟨g, k * 3, none⟩) 1 c]).run Try.prog w = .ok (.tuple #[]) (w.setCells g (k * 3) [.int .i64 0, .int .i64 0, .int .i64 0]) := by
  have hst := run_storeCells_cells (P := Try.prog) g (k * 3) [.int .i64 0, .int .i64 0, .int .i64 0] 0 w (fun j hj => hs j (by simpa using hj)) (fun j hj => hf _) (by intro v hv; simp at hv; rw [hv]; rfl)
  simp only [Nat.add_zero] at hst
  have hv : ∀ w, (zeroValue 37).run Try.prog w = .ok (.agg #[.int .i64 0, .int .i64 0, .int .i64 0]) w := Try.zeroValue37
  have hz : (Builtin.zeroCells #[Value.int .i64 0, .int .i64 0, .int .i64 0] 1).toList = [.int .i64 0, .int .i64 0, .int .i64 0] := by
    simp only [Builtin.zeroCells, Array.toList_map, Array.toList_range, List.size_toArray]
    apply List.ext_getElem
    · simp
    · intro i h1 h2
      have : i = 0 ∨ i = 1 ∨ i = 2 := by simp at h2; omega
      rcases this with e | e | e <;> simp [e]
  simp [Builtin.clear_, run_underlying ut, hv, Value.cells, hz, hst]

set_option maxHeartbeats 4000000 in
set_option maxRecDepth 1000000 in
theorem del_any (l : CLs) (i g cap : Nat) (w : World) (hi : i < l.length) (hR : Row3 w g cap l.toArray) :
    Calls Try.prog 35 #[.slice (some ⟨g, 0, none⟩) l.length cap, .int .i64 i, .int .i64 ((i : Int) + 1)] w fun e w' =>
      e = .returned (.slice (some ⟨g, 0, none⟩) (l.length - 1) cap) ∧ w' = (w.drew.setCells g (i * 3) (flatC (l.drop (i + 1)))).setCells g ((l.length - 1) * 3) [.int .i64 0, .int .i64 0, .int .i64 0] := by
  obtain ⟨n, hn⟩ : ∃ n, n = l.length := ⟨_, rfl⟩
  have hnc : n ≤ cap := by have := hR.le; simp at this; omega
  have hc63 : cap ≤ 9223372036854775807 := by have := hR.max; unfold maxLen at this; omega
  obtain ⟨i0, hi0, hz0, hzs, hzb⟩ := info_parts info37
  rw [← hn] at hi ⊢
  obtain ⟨news, hnews⟩ : ∃ news, news = flatC (l.drop (i + 1)) := ⟨_, rfl⟩
  have hlen : news.length = (n - (i + 1)) * 3 := by rw [hnews, flat_length, List.length_drop, hn]
  have hcell : ∀ t u, news[t]? = some u → w.cell? ⟨g, (i + 1) * 3 + t, none⟩ = some u := by
    intro t u hu
    rw [hnews] at hu
    refine flat_all (l.drop (i + 1)) (fun j v => w.cell? ⟨g, (i + 1) * 3 + j, none⟩ = some v) (fun t y hy => ?_) t u hu
    rw [List.getElem?_drop] at hy
    obtain ⟨ht, e⟩ := arr_get hy
    have := hR.cell _ ht
    rw [e, show (i + 1 + t) * 3 = (i + 1) * 3 + t * 3 by omega] at this
    exact this
  obtain ⟨A, hA, hsrc⟩ : ∃ A : Addr, (if cap = i + 1 then some (⟨g, 0, none⟩ : Addr) else some ⟨g, (i + 1) * 3, none⟩) = some A ∧ (∀ t u, news[t]? = some u → w.drew.cell? (A.add t) = some u) := by
    by_cases h : cap = i + 1
    · refine ⟨⟨g, 0, none⟩, by simp [h], fun t u hu => ?_⟩
      have h0 : news.length = 0 := by rw [hlen]; omega
      rw [List.length_eq_zero_iff.1 h0] at hu
      simp at hu
    · refine ⟨⟨g, (i + 1) * 3, none⟩, by simp [h], fun t u hu => ?_⟩
      rw [Addr.add_lit]
      exact hcell t u hu
  have s2 : ∀ u ∈ news, u.oneCell' = true := by rw [hnews]; exact flat_one _
  have s3 : ∀ t, t < news.length → (w.drew.cell? ⟨g, 0 + i * 3 + t, none⟩).isSome = true ∧ w.drew.frozen? ⟨g, 0 + i * 3 + t, none⟩ = false := by
    intro t ht
    rw [hlen] at ht
    exact ⟨hR.isSome _ (by omega), hR.frozen _⟩
  obtain ⟨W1, hW1⟩ : ∃ W1, W1 = w.drew.setCells g (0 + i * 3) news := ⟨_, rfl⟩
  have hsp1 : ∀ k, k < cap * 3 → (W1.cell? ⟨g, k, none⟩).isSome = true := fun k hk => by
    rw [hW1]
    exact Go.Proofs.isSome_setCells g news (0 + i * 3) w.drew (fun j hj => (s3 j hj).1) _ (hR.isSome k hk)
  have hcl : ∀ ty c, (Builtin.clear_ #[28] ty #[.slice (some ⟨g, (n - 1) * 3, none⟩) (n - (n - 1)) c]).run Try.prog W1 = .ok (.tuple #[]) (W1.setCells g ((n - 1) * 3) [.int .i64 0, .int .i64 0, .int .i64 0]) := fun ty c => by
    rw [show n - (n - 1) = 1 by omega]
    exact clear_one W1 g (n - 1) (fun j hj => hsp1 _ (by omega)) (fun j => by rw [hW1, World.frozen?_setCells]; exact hR.frozen _) ty c
  have hz5 : (i == i + 1) = false := beq_eq_false_iff_ne.2 (by omega)
  have hz6 : ((i : Int) == (i : Int) + 1) = false := beq_eq_false_iff_ne.2 (by omega)
  have hb1 : (0 : Int) ≤ (i : Int) + 1 := by omega
  have hin : (i : Int) ≤ (i : Int) + 1 := by omega
  have hin2 : (i : Int) + 1 ≤ (n : Int) := by omega
  have hin3 : i ≤ cap := by omega
  have htn : ((i : Int) + 1).toNat = i + 1 := by omega
  have hadd : i + (n - (i + 1)) = n - 1 := by omega
  have mixed : Try.prog.follows Departure.mixedOrders = true := by kernel_rfl
  have HW : Aside0 (W1 = w.drew.setCells g (i * 3) (flatC (l.drop (i + 1)))) := ⟨by rw [hW1, hnews, Nat.zero_add]⟩
  have HW1 := Aside0.mk hW1
  have S1 := Aside0.mk hlen
  have S2 := Aside0.mk s2
  have S3 := Aside0.mk s3
  have SC := Aside0.mk hsrc
  clear hW1 hlen s2 s3 hsrc hcell hnews hR hn hsp1
  go_enter Try.func35, Try.ntmps35
  go_wp2_with fail
  go_region_law_o (refine step_append_room rfl (.tmp 22) (.tmp 25) 28 rfl 37 i0 3 ut hi0 hzs g 0 i cap (by simp [Act.eval, Act.put]) A (n - (i + 1)) (cap - (i + 1)) news (by simp [Act.eval, Act.put]) S1.out SC.out S2.out (by omega) S3.out ?_; rw [← HW1.out, hadd])
  go_wp2
  go_ret
  exact ⟨rfl, by rw [HW.out]⟩
end Go.Proofs.Ytpekdgdogmaohaa
