/- The document's own sets of chapter 4, as lists of cells. Plain. -/
import Derived.Test.YtpekdgdogmaohaaPut
import Derived.Test.YtpekdgdogmaohaaHRef4
namespace Go.Proofs.Ytpekdgdogmaohaa
open Go.RowKit Go.Proofs.YtpekdgdogmaohaaW.PrintWords Go.Proofs.YtpekdgdogmaohaaW.PrintLast Go.Proofs.YtpekdgdogmaohaaW.PrintMore
open H
open Go.RowKit
set_option linter.unusedSimpArgs false

def told (x : CL) : RC := ⟨x.f0.f0, x.f0.f1, x.f1⟩
theorem rdT (l : List CL) (j : Nat) (hj : j < l.length) : rd_T24 (l.map told) j = told l[j] := by
  rw [rdR (l.map told) j (by simpa using hj), List.getElem_map]
theorem neq3 (x c : CL) : (!(x.f0.f0 == c.f0.f0) || (!(x.f0.f1 == c.f0.f1) || (!(x.f1 == c.f1)))) = !decide (x = c) := by
  rw [← Bool.or_assoc]
  exact neq_cell x c
theorem eq3 (x c : CL) : (x.f0.f0 == c.f0.f0 && (x.f0.f1 == c.f0.f1 && (x.f1 == c.f1))) = decide (x = c) := by
  have := congrArg not (neq3 x c)
  simpa using this
theorem ahead_lt (x c : CL) : aheadP x.f0.f0 x.f0.f1 x.f1 c.f0.f0 c.f0.f1 c.f1 ↔ ltC x c := by
  unfold aheadP ltC
  rw [cmp_lt]
def insC (c : CL) : List CL → List CL
  | [] => [c]
  | x :: r => if ltC x c then x :: insC c r else c :: (x :: r).filter (fun y => decide (y ≠ c))
theorem insC_mem (c : CL) : ∀ (l : List CL) (x : CL), x ∈ insC c l ↔ x = c ∨ x ∈ l
  | [], x => by simp [insC]
  | y :: r, x => by
    unfold insC
    split
    · rw [List.mem_cons, insC_mem c r, List.mem_cons]
      constructor
      · rintro (h | h | h)
        · exact .inr (.inl h)
        · exact .inl h
        · exact .inr (.inr h)
      · rintro (h | h | h)
        · exact .inr (.inl h)
        · exact .inl h
        · exact .inr (.inr h)
    · rw [List.mem_cons, List.mem_filter]
      constructor
      · rintro (h | h)
        · exact .inl h
        · exact .inr h.1
      · rintro (h | h)
        · exact .inl h
        · by_cases e : x = c
          · exact .inl e
          · exact .inr ⟨h, by simpa using e⟩
theorem insC_srt (c : CL) : ∀ {l : List CL}, Srt l → Srt (insC c l)
  | [], _ => by simp [insC, Srt]
  | y :: r, h => by
    have h' := h
    unfold Srt at h
    rw [List.pairwise_cons] at h
    unfold insC
    by_cases hy : ltC y c
    · rw [if_pos hy]
      unfold Srt
      rw [List.pairwise_cons]
      refine ⟨fun x hx => ?_, insC_srt c h.2⟩
      rcases (insC_mem c r x).1 hx with rfl | hx
      · exact hy
      · exact h.1 x hx
    · rw [if_neg hy]
      unfold Srt
      rw [List.pairwise_cons]
      refine ⟨fun x hx => ?_, List.Pairwise.sublist List.filter_sublist h'⟩
      rw [List.mem_filter] at hx
      obtain ⟨hx, hne⟩ := hx
      have hne : x ≠ c := by simpa using hne
      rcases ltC_tri y c with e | e | e
      · exact absurd e hy
      · subst e
        rcases List.mem_cons.1 hx with e | hx
        · exact absurd e hne
        · exact h.1 x hx
      · rcases List.mem_cons.1 hx with rfl | hx
        · exact e
        · exact ltC_trans e (h.1 x hx)
theorem insC_put {l : List CL} (h : Srt l) (c : CL) : insC c l = putL l c true :=
  srt_ext (insC_srt c h) (putL_srt h c true).1 (fun x => by rw [insC_mem, (putL_srt h c true).2, if_pos rfl])
theorem putR_l0 (l : List CL) (c : CL) (hn : l.length ≤ 1000) : ∀ (d k : Nat) (j : Nat) (out : List RC) (done : Bool), j + d = l.length → 3 * d + 1 ≤ k → out.length ≤ 2 * j → honeycombref04_Put.l0 k out done (l.map told) ((l.map told).length : Int) j c.f0.f0 c.f0.f1 c.f1 = some (out ++ (if done = true then ((l.drop j).filter (fun y => decide (y ≠ c))).map told else (insC c (l.drop j)).map told)) := by
  intro d
  induction d with
  | zero =>
    intro k j out done hj hk ho
    obtain ⟨k, rfl⟩ : ∃ m, k = m + 1 := ⟨k - 1, by omega⟩
    simp only [honeycombref04_Put.l0]
    rw [if_neg (by rw [List.length_map]; omega), List.drop_eq_nil_of_le (by omega)]
    cases done
    · rw [if_neg (by decide), if_pos (by omega), if_neg (by decide)]
      rfl
    · rw [if_pos rfl, if_pos rfl]
      simp
  | succ d ih =>
    intro k j out done hj hk ho
    obtain ⟨k, rfl⟩ : ∃ m, k = m + 1 := ⟨k - 1, by omega⟩
    obtain ⟨k1, rfl⟩ : ∃ m, k = m + 1 := ⟨k - 1, by omega⟩
    obtain ⟨k2, rfl⟩ : ∃ m, k1 = m + 1 := ⟨k1 - 1, by omega⟩
    have h1 : j < l.length := by omega
    have hw : wrap64 ((j : Int) + 1) = ((j + 1 : Nat) : Int) := by rw [w64i ((j : Int) + 1) (by omega) (by omega)]; rfl
    rw [List.drop_eq_getElem_cons h1]
    have tail : ∀ (o : List RC) (dn : Bool), o.length ≤ 2 * j + 1 → honeycombref04_Put.j2 (k2 + 1) o dn (l.map told) ((l.map told).length : Int) j c.f0.f0 c.f0.f1 c.f1 (told l[j]).f0 (told l[j]).f1 (told l[j]).f2 = some (o ++ (if l[j] = c then [] else [told l[j]]) ++ (if dn = true then ((l.drop (j + 1)).filter (fun y => decide (y ≠ c))).map told else (insC c (l.drop (j + 1))).map told)) := by
      intro o dn hlo
      simp only [honeycombref04_Put.j2]
      change (if (!(l[j].f0.f0 == c.f0.f0) || (!(l[j].f0.f1 == c.f0.f1) || (!(l[j].f1 == c.f1)))) = true then _ else _) = _
      rw [neq3]
      by_cases he : l[j] = c
      · rw [decide_eq_true he, if_neg (by decide), hw, ih k2 (j + 1) o dn (by omega) (by omega) (by omega), if_pos he, List.append_nil]
      · rw [decide_eq_false he, if_pos (by decide), if_pos (by omega), hw, ih k2 (j + 1) _ dn (by omega) (by omega) (by rw [List.length_append]; simp; omega), if_neg he]
    have j1f : ∀ dn, honeycombref04_Put.j1 (k2 + 1 + 1) out dn (l.map told) ((l.map told).length : Int) j false c.f0.f0 c.f0.f1 c.f1 (told l[j]).f0 (told l[j]).f1 (told l[j]).f2 = honeycombref04_Put.j2 (k2 + 1) out dn (l.map told) ((l.map told).length : Int) j c.f0.f0 c.f0.f1 c.f1 (told l[j]).f0 (told l[j]).f1 (told l[j]).f2 := by
      intro dn
      generalize k2 + 1 = kk
      simp only [honeycombref04_Put.j1]
      rw [if_neg (by decide)]
    have j1t : ∀ dn, honeycombref04_Put.j1 (k2 + 1 + 1) out dn (l.map told) ((l.map told).length : Int) j true c.f0.f0 c.f0.f1 c.f1 (told l[j]).f0 (told l[j]).f1 (told l[j]).f2 = honeycombref04_Put.j2 (k2 + 1) (out ++ [told c]) true (l.map told) ((l.map told).length : Int) j c.f0.f0 c.f0.f1 c.f1 (told l[j]).f0 (told l[j]).f1 (told l[j]).f2 := by
      intro dn
      generalize k2 + 1 = kk
      simp only [honeycombref04_Put.j1]
      rw [if_pos trivial, if_pos (by omega)]
      rfl
    obtain ⟨kk, hkk⟩ : ∃ kk, kk = k2 + 1 + 1 := ⟨_, rfl⟩
    rw [← hkk] at j1f j1t ⊢
    simp only [honeycombref04_Put.l0]
    rw [if_pos (by rw [List.length_map]; omega), if_pos (by omega), if_pos (by rw [List.length_map]; omega), rdT l j h1]
    cases done
    · rw [if_neg (by decide), if_neg (by decide)]
      change ((honeycombref03_Ahead.f l[j].f0.f0 l[j].f0.f1 l[j].f1 c.f0.f0 c.f0.f1 c.f1).bind _) = _
      rw [ahead_f, Option.bind_some]
      by_cases hl : ltC l[j] c
      · rw [decide_eq_true ((ahead_lt _ _).2 hl)]
        change honeycombref04_Put.j1 kk out false (l.map told) _ j false _ _ _ _ _ _ = _
        have hne : ¬ l[j] = c := fun e => ltC_irrefl c (by have := hl; rwa [e] at this)
        rw [j1f, tail out false (by omega), if_neg hne, if_neg (by decide)]
        simp only [insC]
        rw [if_pos hl, List.map_cons]
        simp
      · rw [decide_eq_false (fun h => hl ((ahead_lt _ _).1 h))]
        change honeycombref04_Put.j1 kk out false (l.map told) _ j true _ _ _ _ _ _ = _
        rw [j1t, tail _ true (by rw [List.length_append]; simp; omega), if_pos rfl]
        simp only [insC]
        rw [if_neg hl, List.map_cons, List.filter_cons]
        by_cases he : l[j] = c
        · simp [he]
        · simp [he]
    · rw [if_pos rfl, j1f, tail out true (by omega), if_pos rfl, if_pos rfl, List.filter_cons]
      by_cases he : l[j] = c
      · simp [he]
      · simp [he]
theorem putR_f (k : Nat) {l : List CL} (h : Srt l) (c : CL) (hn : l.length ≤ 1000) (hk : 3 * l.length + 1 ≤ k) : honeycombref04_Put.f k (l.map told) c.f0.f0 c.f0.f1 c.f1 = some ((putL l c true).map told) := by
  unfold honeycombref04_Put.f
  have := putR_l0 l c hn l.length k 0 [] false (by omega) hk (by simp)
  rw [if_neg (by decide), List.drop_zero, insC_put h, List.nil_append] at this
  exact this
theorem lessR_l0 (l : List CL) (c : CL) (hn : l.length ≤ 1000) : ∀ (d k : Nat) (j : Nat) (out : List RC), j + d = l.length → d < k → out.length ≤ j → honeycombref04_Less.l0 k out (l.map told) ((l.map told).length : Int) j c.f0.f0 c.f0.f1 c.f1 = some (out ++ ((l.drop j).filter (fun y => decide (y ≠ c))).map told) := by
  intro d
  induction d with
  | zero =>
    intro k j out hj hk ho
    obtain ⟨k, rfl⟩ : ∃ m, k = m + 1 := ⟨k - 1, by omega⟩
    simp only [honeycombref04_Less.l0]
    rw [if_neg (by rw [List.length_map]; omega), List.drop_eq_nil_of_le (by omega)]
    simp
  | succ d ih =>
    intro k j out hj hk ho
    obtain ⟨k, rfl⟩ : ∃ m, k = m + 1 := ⟨k - 1, by omega⟩
    have h1 : j < l.length := by omega
    have hw : wrap64 ((j : Int) + 1) = ((j + 1 : Nat) : Int) := by rw [w64i ((j : Int) + 1) (by omega) (by omega)]; rfl
    simp only [honeycombref04_Less.l0]
    rw [if_pos (by rw [List.length_map]; omega), if_pos (by omega), if_pos (by rw [List.length_map]; omega), rdT l j h1, List.drop_eq_getElem_cons h1, hw]
    change (if (!(l[j].f0.f0 == c.f0.f0) || (!(l[j].f0.f1 == c.f0.f1) || (!(l[j].f1 == c.f1)))) = true then _ else _) = _
    rw [neq3, List.filter_cons]
    by_cases he : l[j] = c
    · rw [decide_eq_true he, if_neg (by decide), ih k (j + 1) out (by omega) (by omega) (by omega)]
      simp [he]
    · rw [decide_eq_false he, if_pos (by decide), if_pos (by omega), ih k (j + 1) _ (by omega) (by omega) (by rw [List.length_append]; simp; omega)]
      simp [he, told]
theorem filt_del {l : List CL} (h : Srt l) (c : CL) : l.filter (fun y => decide (y ≠ c)) = putL l c false :=
  srt_ext (h.sublist List.filter_sublist) (putL_srt h c false).1 (fun x => by rw [List.mem_filter, (putL_srt h c false).2, if_neg (by decide)]; simp)
theorem lessR_f (k : Nat) {l : List CL} (h : Srt l) (c : CL) (hn : l.length ≤ 1000) (hk : l.length < k) : honeycombref04_Less.f k (l.map told) c.f0.f0 c.f0.f1 c.f1 = some ((putL l c false).map told) := by
  unfold honeycombref04_Less.f
  have := lessR_l0 l c hn l.length k 0 [] (by omega) hk (by simp)
  rw [List.drop_zero, filt_del h, List.nil_append] at this
  exact this
theorem hasR_l0 (l : List CL) (c : CL) (hn : l.length ≤ 1000) : ∀ (d k : Nat) (j : Nat), j + d = l.length → d < k → honeycombref04_Has.l0 k (l.map told) ((l.map told).length : Int) j c.f0.f0 c.f0.f1 c.f1 = some (decide (c ∈ l.drop j)) := by
  intro d
  induction d with
  | zero =>
    intro k j hj hk
    obtain ⟨k, rfl⟩ : ∃ m, k = m + 1 := ⟨k - 1, by omega⟩
    simp only [honeycombref04_Has.l0]
    rw [if_neg (by rw [List.length_map]; omega), List.drop_eq_nil_of_le (by omega)]
    simp
  | succ d ih =>
    intro k j hj hk
    obtain ⟨k, rfl⟩ : ∃ m, k = m + 1 := ⟨k - 1, by omega⟩
    have h1 : j < l.length := by omega
    have hw : wrap64 ((j : Int) + 1) = ((j + 1 : Nat) : Int) := by rw [w64i ((j : Int) + 1) (by omega) (by omega)]; rfl
    simp only [honeycombref04_Has.l0]
    rw [if_pos (by rw [List.length_map]; omega), if_pos (by omega), if_pos (by rw [List.length_map]; omega), rdT l j h1, List.drop_eq_getElem_cons h1, hw]
    change (if (l[j].f0.f0 == c.f0.f0 && (l[j].f0.f1 == c.f0.f1 && (l[j].f1 == c.f1))) = true then _ else _) = _
    rw [eq3]
    by_cases he : l[j] = c
    · rw [decide_eq_true he, if_pos rfl]
      simp [he]
    · rw [decide_eq_false he, if_neg (by decide), ih k (j + 1) (by omega) (by omega)]
      congr 1
      exact decide_eq_decide.2 ⟨fun h => List.mem_cons_of_mem _ h, fun h => (List.mem_cons.1 h).resolve_left (Ne.symm he)⟩
theorem hasR_f (k : Nat) (l : List CL) (c : CL) (hn : l.length ≤ 1000) (hk : l.length < k) : honeycombref04_Has.f k (l.map told) c.f0.f0 c.f0.f1 c.f1 = some (decide (c ∈ l)) := by
  unfold honeycombref04_Has.f
  have := hasR_l0 l c hn l.length k 0 (by omega) hk
  rw [List.drop_zero] at this
  exact this
theorem ofR_l0 (l : List CL) (hn : l.length ≤ 300) : ∀ (d k : Nat) (j : Nat) (s : List CL), j + d = l.length → d + 1000 < k → s = ofL (l.take j) → honeycombref04_Of.l0 k (s.map told) (l.map told) ((l.map told).length : Int) j = some ((ofL l).map told) := by
  intro d
  induction d with
  | zero =>
    intro k j s hj hk hs
    obtain ⟨k, rfl⟩ : ∃ m, k = m + 1 := ⟨k - 1, by omega⟩
    simp only [honeycombref04_Of.l0]
    rw [if_neg (by rw [List.length_map]; omega), hs, List.take_of_length_le (by omega)]
  | succ d ih =>
    intro k j s hj hk hs
    obtain ⟨k, rfl⟩ : ∃ m, k = m + 1 := ⟨k - 1, by omega⟩
    have h1 : j < l.length := by omega
    have hw : wrap64 ((j : Int) + 1) = ((j + 1 : Nat) : Int) := by rw [w64i ((j : Int) + 1) (by omega) (by omega)]; rfl
    have hsl : s.length ≤ 300 := by
      rw [hs]
      refine Nat.le_trans (ofL_le _) ?_
      rw [List.length_take]; omega
    have hss : Srt s := by rw [hs]; exact ofL_srt _
    have hp := putL_srt hss l[j] true
    have he : putL s l[j] true = ofL (l.take (j + 1)) := by
      refine srt_ext hp.1 (ofL_srt _) (fun x => ?_)
      rw [hp.2, if_pos rfl, ofL_mem, List.take_add_one, List.getElem?_eq_getElem h1, List.mem_append, hs, ofL_mem]
      simp only [Option.toList_some, List.mem_singleton]
      exact Or.comm
    simp only [honeycombref04_Of.l0]
    rw [if_pos (by rw [List.length_map]; omega), if_pos (by omega), if_pos (by rw [List.length_map]; omega), rdT l j h1, hw]
    change ((honeycombref04_Put.f k (s.map told) l[j].f0.f0 l[j].f0.f1 l[j].f1).bind _) = _
    rw [putR_f k hss l[j] (by omega) (by omega), Option.bind_some]
    exact ih k (j + 1) _ (by omega) (by omega) he
theorem ofR_f (k : Nat) (l : List CL) (hn : l.length ≤ 300) (hk : l.length + 1000 < k) : honeycombref04_Of.f k (l.map told) = some ((ofL l).map told) := by
  unfold honeycombref04_Of.f
  have := ofR_l0 l hn l.length k 0 [] (by omega) hk (by rw [List.take_zero, ofL_nil])
  simpa using this
theorem told4_l0 (l : List CL) (hn : l.length ≤ 1000) : ∀ (d k : Nat) (j : Nat) (out : List RC), j + d = l.length → d < k → out.length ≤ j → honeycomblaw04_Told.l0 k out l (l.length : Int) j = some (out ++ (l.drop j).map told) := by
  intro d
  induction d with
  | zero =>
    intro k j out hj hk ho
    obtain ⟨k, rfl⟩ : ∃ m, k = m + 1 := ⟨k - 1, by omega⟩
    simp only [honeycomblaw04_Told.l0]
    rw [if_neg (by omega), List.drop_eq_nil_of_le (by omega)]
    simp
  | succ d ih =>
    intro k j out hj hk ho
    obtain ⟨k, rfl⟩ : ∃ m, k = m + 1 := ⟨k - 1, by omega⟩
    have h1 : j < l.length := by omega
    have hw : wrap64 ((j : Int) + 1) = ((j + 1 : Nat) : Int) := by rw [w64i ((j : Int) + 1) (by omega) (by omega)]; rfl
    simp only [honeycomblaw04_Told.l0]
    rw [if_pos (by omega), if_pos (by omega), if_pos (by omega), rdC l j h1, hw, List.drop_eq_getElem_cons h1]
    simp only [honeycomblaw03_Told.f, Option.bind_some]
    rw [if_pos (by omega), ih k (j + 1) _ (by omega) (by omega) (by rw [List.length_append]; simp; omega), List.map_cons, List.append_assoc]
    rfl
theorem told4_f (k : Nat) (l : List CL) (hn : l.length ≤ 1000) (hk : l.length < k) : honeycomblaw04_Told.f k l = some (l.map told) := by
  unfold honeycomblaw04_Told.f
  have := told4_l0 l hn l.length k 0 [] (by omega) hk (by simp)
  simpa using this
theorem are_l0 (l : List CL) (hn : l.length ≤ 1000) : ∀ (d k : Nat) (j : Nat), j + d = l.length → d < k → honeycomblaw04_Are.l0 k l (l.map told) ((l.map told).length : Int) j = some 0 := by
  intro d
  induction d with
  | zero =>
    intro k j hj hk
    obtain ⟨k, rfl⟩ : ∃ m, k = m + 1 := ⟨k - 1, by omega⟩
    simp only [honeycomblaw04_Are.l0]
    rw [if_neg (by rw [List.length_map]; omega)]
  | succ d ih =>
    intro k j hj hk
    obtain ⟨k, rfl⟩ : ∃ m, k = m + 1 := ⟨k - 1, by omega⟩
    have h1 : j < l.length := by omega
    have hw : wrap64 ((j : Int) + 1) = ((j + 1 : Nat) : Int) := by rw [w64i ((j : Int) + 1) (by omega) (by omega)]; rfl
    simp only [honeycomblaw04_Are.l0]
    rw [if_pos (by rw [List.length_map]; omega), if_pos (by omega), if_pos (by omega), rdC l j h1, rdT l j h1, hw]
    simp only [honeycomblaw03_Told.f, Option.bind_some]
    rw [if_pos (by rw [List.length_map]; omega), if_neg (by simp [told])]
    exact ih k (j + 1) (by omega) (by omega)
theorem are_f (k : Nat) (l : List CL) (hn : l.length ≤ 1000) (hk : l.length < k) : honeycomblaw04_Are.f k l (l.map told) = some 0 := by
  unfold honeycomblaw04_Are.f
  rw [if_pos (by rw [List.length_map])]
  exact are_l0 l hn l.length k 0 (by omega) hk
end Go.Proofs.Ytpekdgdogmaohaa
