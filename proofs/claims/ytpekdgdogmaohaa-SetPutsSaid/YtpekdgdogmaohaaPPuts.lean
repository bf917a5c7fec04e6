/- SetPuts: one by one. Plain. -/
import Derived.Test.YtpekdgdogmaohaaPut
import Derived.Test.YtpekdgdogmaohaaHhoneycomblaw04SetPuts
namespace Go.Proofs.Ytpekdgdogmaohaa
open Go.RowKit Go.Proofs.YtpekdgdogmaohaaW.PrintWords Go.Proofs.YtpekdgdogmaohaaW.PrintLast Go.Proofs.YtpekdgdogmaohaaW.PrintMore
open H
open Go.RowKit

theorem mk_eta (x : S37) : mk x.f0.f0 x.f0.f1 x.f1 = x := rfl
theorem putL_idem {l : CLs} {c : S37} (hc : c ∈ l) : putL l c true = l := by
  unfold putL
  rw [decide_eq_true hc, if_pos rfl]
theorem take_succ_mem (l : CLs) (j : Nat) (hj : j < l.length) (x : S37) : x ∈ l.take (j + 1) ↔ x ∈ l.take j ∨ x = l[j] := by
  rw [List.take_add_one, List.getElem?_eq_getElem hj, List.mem_append]
  simp
theorem puts_l1 (l : CLs) (hn : l.length ≤ 40) : ∀ (d k : Nat) (j : Nat) (s : CLs), j + d = l.length → d < k → s.length ≤ 40 → Srt s → (∀ x, x ∈ s ↔ x ∈ l ∧ x ∉ l.take j) → honeycomblaw04_SetPuts.l1 k s l l.length j = some true := by
  intro d
  induction d with
  | zero =>
    intro k j s hj hk hs1 hs hm
    obtain ⟨k, rfl⟩ : ∃ m, k = m + 1 := ⟨k - 1, by omega⟩
    simp only [honeycomblaw04_SetPuts.l1]
    rw [if_neg (by omega)]
    have h0 : s = [] := by
      apply List.eq_nil_iff_forall_not_mem.2
      intro x hx
      have := (hm x).1 hx
      rw [List.take_of_length_le (by omega)] at this
      exact this.2 this.1
    rw [h0]
    rfl
  | succ d ih =>
    intro k j s hj hk hs1 hs hm
    obtain ⟨k, rfl⟩ : ∃ m, k = m + 1 := ⟨k - 1, by omega⟩
    have h1 : j < l.length := by omega
    simp only [honeycomblaw04_SetPuts.l1]
    rw [if_pos (by omega), if_pos (by omega), if_pos (by omega), rdC l j h1, put_f hs (by omega), Option.bind_some, mk_eta]
    change ((set_Set_Has.f (putL s l[j] false) _ _ _).bind _) = _
    have hp := putL_srt hs l[j] false
    have hpl := putL_length_f s l[j]
    have hnm : l[j] ∉ putL s l[j] false := fun hx => by
      have := (hp.2 l[j]).1 hx
      rw [if_neg (by decide)] at this
      exact this.2 rfl
    rw [has_f hp.1 (by omega), Option.bind_some]
    change (if decide (l[j] ∈ putL s l[j] false) = true then _ else _) = _
    rw [decide_eq_false hnm, if_neg (by decide), w64i ((j : Int) + 1) (by omega) (by omega)]
    have := ih k (j + 1) (putL s l[j] false) (by omega) (by omega) (by omega) hp.1 (fun x => by
      rw [hp.2, if_neg (by decide), hm, take_succ_mem l j h1]
      constructor
      · rintro ⟨⟨h2, h3⟩, h4⟩
        exact ⟨h2, fun h5 => h5.elim h3 h4⟩
      · rintro ⟨h2, h3⟩
        exact ⟨⟨h2, fun h5 => h3 (.inl h5)⟩, fun h5 => h3 (.inr h5)⟩)
    simp only [Int.natCast_add, Int.cast_ofNat_Int] at this
    exact this
theorem puts_l0 (l : CLs) (hn : l.length ≤ 40) : ∀ (d k : Nat) (j : Nat) (s : CLs), j + d = l.length → d + 100 < k → s = ofL (l.take j) → honeycomblaw04_SetPuts.l0 k l s l l.length j = some true := by
  intro d
  induction d with
  | zero =>
    intro k j s hj hk hs
    obtain ⟨k, rfl⟩ : ∃ m, k = m + 1 := ⟨k - 1, by omega⟩
    simp only [honeycomblaw04_SetPuts.l0]
    rw [List.take_of_length_le (by omega)] at hs
    have hl := ofL_le l
    rw [if_neg (by omega), XOf.f, if_pos (by omega), Option.bind_some, ← hs, same_f k s s (by rw [hs]; omega) (by rw [hs]; omega), Option.bind_some, decide_eq_true rfl, if_pos rfl]
    have := puts_l1 l hn l.length k 0 s (by omega) (by omega) (by rw [hs]; omega) (by rw [hs]; exact ofL_srt _) (fun x => by rw [hs, ofL_mem]; simp)
    simpa using this
  | succ d ih =>
    intro k j s hj hk hs
    obtain ⟨k, rfl⟩ : ∃ m, k = m + 1 := ⟨k - 1, by omega⟩
    have h1 : j < l.length := by omega
    have hsl : s.length ≤ 40 := by
      rw [hs]
      refine Nat.le_trans (ofL_le _) ?_
      rw [List.length_take]; omega
    have hss : Srt s := by rw [hs]; exact ofL_srt _
    have hp := putL_srt hss l[j] true
    have hpl := putL_length s l[j] true
    have he : putL s l[j] true = ofL (l.take (j + 1)) := by
      refine srt_ext hp.1 (ofL_srt _) (fun x => ?_)
      rw [hp.2, if_pos rfl, ofL_mem, take_succ_mem l j h1, hs, ofL_mem]
      exact Or.comm
    have hmem : l[j] ∈ putL s l[j] true := by rw [hp.2, if_pos rfl]; exact .inl rfl
    simp only [honeycomblaw04_SetPuts.l0]
    rw [if_pos (by omega), if_pos (by omega), if_pos (by omega), rdC l j h1, put_f hss (by omega), Option.bind_some, mk_eta]
    change ((set_Set_Has.f (putL s l[j] true) _ _ _).bind _) = _
    rw [has_f hp.1 (by omega), Option.bind_some]
    change (if decide (l[j] ∈ putL s l[j] true) = true then _ else _) = _
    rw [decide_eq_true hmem, if_pos rfl, put_f hp.1 (by omega), Option.bind_some]
    change ((set_Set_Same.f k (putL (putL s l[j] true) l[j] true) (putL s l[j] true)).bind _) = _
    rw [putL_idem hmem, same_f k _ _ (by omega) (by omega), Option.bind_some, decide_eq_true rfl, if_pos rfl, w64i ((j : Int) + 1) (by omega) (by omega)]
    have := ih k (j + 1) (putL s l[j] true) (by omega) (by omega) he
    simp only [Int.natCast_add, Int.cast_ofNat_Int] at this
    exact this
theorem puts_pure (raw : List RC) (hn : raw.length < 140737488351232) : honeycomblaw04_SetPuts.f 200 raw = some true := by
  unfold honeycomblaw04_SetPuts.f
  rw [awake4_f, Option.bind_some, if_pos rfl, own4_f 200 raw hn (by omega), Option.bind_some]
  have hl : ((raw.take 40).map ownC).length ≤ 40 := by rw [List.length_map, List.length_take]; omega
  generalize (raw.take 40).map ownC = l at hl
  have hm : mn (l.length : Int) 30 = ((min l.length 30 : Nat) : Int) := by
    unfold mn
    split <;> omega
  rw [hm, if_pos (by omega), if_pos (by omega), Option.bind_some, Int.toNat_natCast]
  have hl2 : (l.take (min l.length 30)).length ≤ 40 := by rw [List.length_take]; omega
  generalize l.take (min l.length 30) = y at hl2
  have := puts_l0 y hl2 y.length 200 0 [] (by omega) (by omega) (by rw [List.take_zero, ofL_nil])
  simpa using this
theorem setPuts_walk (A0 : Option Addr) (c0 : Nat) (l0 : List RC) (w : World) (hr0 : Kd.C k24 w A0 l0.length l0) (hc0 : l0.length ≤ c0) (hn : l0.length < 140737488351232) :
    Calls Try.prog 4 #[.slice A0 l0.length c0] w fun e w' => e = .returned (.bool true) ∧ Below w.heap.size w w' :=
  honeycomblaw04_SetPuts.calls 200 A0 c0 l0 true w hr0 hc0 (puts_pure l0 hn)
end Go.Proofs.Ytpekdgdogmaohaa
