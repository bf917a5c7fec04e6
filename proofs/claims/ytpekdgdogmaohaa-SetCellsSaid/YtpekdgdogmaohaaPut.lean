/- What Put answers, of sets that rise. Plain. -/
import Derived.Test.YtpekdgdogmaohaaXPut
import Derived.Test.YtpekdgdogmaohaaPSet
namespace Go.Proofs.Ytpekdgdogmaohaa
open Go.RowKit Go.Proofs.YtpekdgdogmaohaaW.PrintWords Go.Proofs.YtpekdgdogmaohaaW.PrintLast Go.Proofs.YtpekdgdogmaohaaW.PrintMore
open H
open Go.RowKit

theorem insAt_srt {l : CLs} (h : Srt l) {c : S37} (hc : c ∉ l) : Srt (insAt l (lo l c) c) ∧ ∀ x, x ∈ insAt l (lo l c) c ↔ x = c ∨ x ∈ l := by
  have e1 := lo_take h c
  have e2 := lo_drop h c
  have m1 : ∀ x, x ∈ l.take (lo l c) → x ∈ l ∧ ltC x c := fun x hx => by
    rw [e1, List.mem_filter] at hx
    exact ⟨hx.1, of_decide_eq_true hx.2⟩
  have m2 : ∀ x, x ∈ l.drop (lo l c) → x ∈ l ∧ ltC c x := fun x hx => by
    rw [e2, List.mem_filter] at hx
    have hn : ¬ ltC x c := by simpa using hx.2
    rcases ltC_tri x c with h1 | h1 | h1
    · exact absurd h1 hn
    · exact absurd (h1 ▸ hx.1) hc
    · exact ⟨hx.1, h1⟩
  constructor
  · unfold Srt insAt
    rw [List.pairwise_append]
    refine ⟨h.sublist (List.take_sublist _ _), ?_, ?_⟩
    · rw [List.pairwise_cons]
      exact ⟨fun x hx => (m2 x hx).2, h.sublist (List.drop_sublist _ _)⟩
    · intro x hx y hy
      rcases List.mem_cons.1 hy with rfl | hy
      · exact (m1 x hx).2
      · exact ltC_trans (m1 x hx).2 (m2 y hy).2
  · intro x
    unfold insAt
    rw [List.mem_append, List.mem_cons]
    constructor
    · rintro (hx | hx | hx)
      · exact .inr (m1 x hx).1
      · exact .inl hx
      · exact .inr (m2 x hx).1
    · rintro (hx | hx)
      · exact .inr (.inl hx)
      · rw [← List.take_append_drop (lo l c) l, List.mem_append] at hx
        rcases hx with hx | hx
        · exact .inl hx
        · exact .inr (.inr hx)
theorem delAt_srt {l : CLs} (h : Srt l) {c : S37} (hc : c ∈ l) : Srt (delAt l (lo l c)) ∧ ∀ x, x ∈ delAt l (lo l c) ↔ x ∈ l ∧ x ≠ c := by
  obtain ⟨hi, h0⟩ := (lo_has h c).2 hc
  generalize lo l c = i at hi h0
  have hr : rd_T37 l i = l[i] := rdC l i hi
  rw [hr, cmp_eq] at h0
  have hl : l = l.take i ++ c :: l.drop (i + 1) := by
    conv => lhs; rw [← List.take_append_drop i l, List.drop_eq_getElem_cons hi, h0]
  have hp : Srt (l.take i ++ c :: l.drop (i + 1)) := by rw [← hl]; exact h
  unfold Srt at hp
  rw [List.pairwise_append, List.pairwise_cons] at hp
  obtain ⟨p1, ⟨p2, p3⟩, p4⟩ := hp
  constructor
  · unfold Srt delAt
    rw [List.pairwise_append]
    exact ⟨p1, p3, fun x hx y hy => p4 x hx y (List.mem_cons_of_mem _ hy)⟩
  · intro x
    have hm : x ∈ l ↔ x ∈ l.take i ∨ x = c ∨ x ∈ l.drop (i + 1) := by
      conv => lhs; rw [hl]
      rw [List.mem_append, List.mem_cons]
    unfold delAt
    rw [List.mem_append, hm]
    constructor
    · rintro (hx | hx)
      · exact ⟨.inl hx, fun e => ltC_irrefl c (e ▸ p4 x hx c List.mem_cons_self)⟩
      · exact ⟨.inr (.inr hx), fun e => ltC_irrefl c (by have := p2 x hx; rwa [e] at this)⟩
    · rintro ⟨hx | hx | hx, hne⟩
      · exact .inl hx
      · exact absurd hx hne
      · exact .inr hx
theorem putL_srt {l : CLs} (h : Srt l) (c : S37) (live : Bool) : Srt (putL l c live) ∧ ∀ x, x ∈ putL l c live ↔ if live = true then x = c ∨ x ∈ l else x ∈ l ∧ x ≠ c := by
  unfold putL
  by_cases hc : c ∈ l
  · rw [decide_eq_true hc]
    cases live
    · rw [if_neg (by decide), if_neg (by decide)]
      simpa using delAt_srt h hc
    · rw [if_pos rfl]
      refine ⟨h, fun x => ?_⟩
      rw [if_pos rfl]
      exact ⟨.inr, fun hx => by rcases hx with rfl | hx <;> assumption⟩
  · rw [decide_eq_false hc]
    cases live
    · rw [if_pos rfl]
      refine ⟨h, fun x => ?_⟩
      rw [if_neg (by decide)]
      exact ⟨fun hx => ⟨hx, fun e => hc (e ▸ hx)⟩, fun hx => hx.1⟩
    · rw [if_neg (by decide), if_pos rfl]
      simpa using insAt_srt h hc
theorem putL_length (l : CLs) (c : S37) (live : Bool) : (putL l c live).length ≤ l.length + 1 := by
  unfold putL
  have := lo_le l c
  split
  · omega
  · split
    · rw [insAt_length l _ c this]; omega
    · unfold delAt
      rw [List.length_append, List.length_take, List.length_drop]; omega
theorem putL_length_f (l : CLs) (c : S37) : (putL l c false).length ≤ l.length := by
  unfold putL
  have := lo_le l c
  split
  · omega
  · split
    · contradiction
    · unfold delAt
      rw [List.length_append, List.length_take, List.length_drop]; omega
theorem put_f {l : CLs} (h : Srt l) (hn : l.length < 1099511627776) (a b k : Int) (live : Bool) : XPut.f l a b k live = some (putL l (mk a b k) live) := by
  unfold XPut.f
  rw [if_pos hn, if_pos h]
theorem has_f {l : CLs} (h : Srt l) (hn : l.length < 1099511627776) (a b k : Int) : set_Set_Has.f l a b k = some (decide (mk a b k ∈ l)) := by
  unfold set_Set_Has.f XFind.f
  rw [if_pos hn, if_pos h]
  rfl
def ownC (r : RC) : CL := mk r.f0 r.f1 r.f2
theorem own3_f (a b h : Int) : honeycomblaw03_Own.f a b h = some (a, b, h) := rfl
theorem own4_l0 (raw : List RC) (hn : raw.length < 140737488351232) : ∀ (d k : Nat) (j : Nat) (out : List CL), j + d = min raw.length 40 → d < k → out.length ≤ j → honeycomblaw04_Own.l0 k raw out j = some (out ++ ((raw.drop j).take (40 - j)).map ownC) := by
  intro d
  induction d with
  | zero =>
    intro k j out hj hk ho
    obtain ⟨k, rfl⟩ : ∃ m, k = m + 1 := ⟨k - 1, by omega⟩
    have he : (raw.drop j).take (40 - j) = [] := by
      rcases Nat.lt_or_ge j raw.length with h | h
      · rw [show 40 - j = 0 by omega, List.take_zero]
      · rw [List.drop_eq_nil_of_le h, List.take_nil]
    simp only [honeycomblaw04_Own.l0]
    rw [he, List.map_nil, List.append_nil]
    by_cases h1 : (j : Int) < (raw.length : Int)
    · rw [if_pos h1, if_neg (by omega)]
    · rw [if_neg h1]
  | succ d ih =>
    intro k j out hj hk ho
    obtain ⟨k, rfl⟩ : ∃ m, k = m + 1 := ⟨k - 1, by omega⟩
    have h1 : j < raw.length := by omega
    have hij := ih k (j + 1) (out ++ [ownC raw[j]]) (by omega) (by omega) (by simp; omega)
    simp only [Int.natCast_add, Int.cast_ofNat_Int] at hij
    simp only [honeycomblaw04_Own.l0]
    rw [if_pos (by omega), if_pos (by omega), if_pos (by omega), rdR raw j h1, own3_f]
    simp only [Option.bind_some]
    rw [if_pos (by omega), w64i ((j : Int) + 1) (by omega) (by omega)]
    refine hij.trans ?_
    rw [List.drop_eq_getElem_cons h1, show 40 - j = (40 - (j + 1)) + 1 by omega, List.take_succ_cons, List.map_cons, List.append_assoc]
    rfl
theorem own4_f (k : Nat) (raw : List RC) (hn : raw.length < 140737488351232) (hk : 40 < k) : honeycomblaw04_Own.f k raw = some ((raw.take 40).map ownC) := by
  unfold honeycomblaw04_Own.f
  have := own4_l0 raw hn (min raw.length 40) k 0 [] (by omega) (by omega) (by simp)
  simpa using this
end Go.Proofs.Ytpekdgdogmaohaa
