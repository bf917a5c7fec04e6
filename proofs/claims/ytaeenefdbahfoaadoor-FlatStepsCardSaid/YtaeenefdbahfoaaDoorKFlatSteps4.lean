/- Parts of the proof (FlatSteps), merged out of our texts by wip/tools/pack.py: PAlive, Find, XFind, XWrap, HSet4, XBeside, XSix, XAround. -/
import Derived.Test.YtaeenefdbahfoaaDoorKFlatSteps3
import Derived.Deep.RegionHeld3
import Derived.Test.YtaeenefdbahfoaaDoorKFlatSteps1
import Derived.Test.YtaeenefdbahfoaaDoorKFlatSteps2
import Derived.Carry
import Derived.BigRegion
namespace Go.Proofs.YtaeenefdbahfoaaDoor
set_option linter.unusedSimpArgs false
set_option linter.unusedVariables false
open Go.RowKit Go.Proofs.YtaeenefdbahfoaaDoorW.PrintWords Go.Proofs.YtaeenefdbahfoaaDoorW.PrintLast Go.Proofs.YtaeenefdbahfoaaDoorW.PrintMore
open H
theorem cntC_cons (p : CL × Int) (M : Tot) (q : CL) : cntC (p :: M) q = if p.1 = q then p.2 else cntC M q := by
  unfold cntC
  rw [List.findIdx?_cons]
  by_cases h : p.1 = q
  · simp [h]
  · simp only [h, decide_false, Bool.false_eq_true, ↓reduceIte]
    cases M.findIdx? (fun p => decide (p.1 = q)) <;> simp
theorem putC_cons (p : CL × Int) (M : Tot) (q : CL) (x : Int) : putC (p :: M) q x = if p.1 = q then (q, x) :: M else p :: putC M q x := by
  unfold putC
  rw [List.findIdx?_cons]
  by_cases h : p.1 = q
  · simp [h]
  · simp only [h, decide_false, Bool.false_eq_true, ↓reduceIte]
    cases M.findIdx? (fun p => decide (p.1 = q)) <;> simp
theorem delC_cons (p : CL × Int) (M : Tot) (q : CL) : delC (p :: M) q = if p.1 = q then M else p :: delC M q := by
  unfold delC
  rw [List.findIdx?_cons]
  by_cases h : p.1 = q
  · simp [h]
  · simp only [h, decide_false, Bool.false_eq_true, ↓reduceIte]
    cases M.findIdx? (fun p => decide (p.1 = q)) <;> simp
theorem cnt_put (q : CL) (x : Int) (r : CL) : ∀ M : Tot, cntC (putC M q x) r = if q = r then x else cntC M r
  | [] => by
    rw [show putC [] q x = [(q, x)] from rfl, cntC_cons]
  | p :: M => by
    rw [putC_cons]
    by_cases h : p.1 = q
    · rw [if_pos h, cntC_cons, cntC_cons]
      by_cases hr : q = r
      · simp [hr]
      · rw [if_neg hr, if_neg hr, if_neg (fun e => hr (h.symm.trans e))]
    · rw [if_neg h, cntC_cons, cntC_cons, cnt_put q x r M]
      by_cases hp : p.1 = r
      · rw [if_pos hp, if_pos hp, if_neg (fun e => h (hp.trans e.symm))]
      · rw [if_neg hp, if_neg hp]
/-- no key twice -/
def KN (M : Tot) : Prop := (M.map (·.1)).Nodup
theorem KN_nil : KN [] := List.nodup_nil
theorem put_key (q : CL) (x : Int) (r : CL) : ∀ M : Tot, r ∈ (putC M q x).map (·.1) ↔ r = q ∨ r ∈ M.map (·.1)
  | [] => by simp [show putC [] q x = [(q, x)] from rfl]
  | p :: M => by
    rw [putC_cons]
    by_cases h : p.1 = q
    · rw [if_pos h]
      simp only [List.map_cons, List.mem_cons, h]
      constructor
      · rintro (h | h) <;> simp [h]
      · rintro (h | h | h) <;> simp [h]
    · rw [if_neg h]
      simp only [List.map_cons, List.mem_cons, put_key q x r M]
      constructor
      · rintro (h | h | h) <;> simp [h]
      · rintro (h | h | h) <;> simp [h]
theorem KN_put (q : CL) (x : Int) : ∀ M : Tot, KN M → KN (putC M q x)
  | [], _ => by simp [KN, show putC [] q x = [(q, x)] from rfl]
  | p :: M, h => by
    unfold KN at *
    rw [List.map_cons, List.nodup_cons] at h
    rw [putC_cons]
    by_cases hp : p.1 = q
    · rw [if_pos hp, List.map_cons, List.nodup_cons]
      exact ⟨by rw [← hp]; exact h.1, h.2⟩
    · rw [if_neg hp, List.map_cons, List.nodup_cons]
      refine ⟨fun hm => ?_, KN_put q x M h.2⟩
      rcases (put_key q x p.1 M).1 hm with e | e
      · exact hp e
      · exact h.1 e
theorem cnt_no (q : CL) : ∀ M : Tot, q ∉ M.map (·.1) → cntC M q = 0
  | [], _ => rfl
  | p :: M, h => by
    rw [List.map_cons, List.mem_cons, not_or] at h
    rw [cntC_cons, if_neg (fun e => h.1 e.symm), cnt_no q M h.2]
theorem cnt_mem (q : CL) (n : Int) : ∀ M : Tot, KN M → (q, n) ∈ M → cntC M q = n
  | [], _, h => by cases h
  | p :: M, hk, h => by
    unfold KN at hk
    rw [List.map_cons, List.nodup_cons] at hk
    rw [cntC_cons]
    rcases List.mem_cons.1 h with e | e
    · subst e; simp
    · rw [if_neg (fun hp => hk.1 (List.mem_map.2 ⟨_, e, hp.symm⟩)), cnt_mem q n M hk.2 e]
theorem del_mem (q : CL) (p : CL × Int) : ∀ M : Tot, KN M → (p ∈ delC M q ↔ p ∈ M ∧ p.1 ≠ q)
  | [], _ => by simp [show delC [] q = [] from rfl]
  | a :: M, hk => by
    unfold KN at hk
    rw [List.map_cons, List.nodup_cons] at hk
    rw [delC_cons]
    by_cases h : a.1 = q
    · rw [if_pos h]
      constructor
      · intro hm
        exact ⟨List.mem_cons_of_mem _ hm, fun e => hk.1 (List.mem_map.2 ⟨p, hm, e.trans h.symm⟩)⟩
      · rintro ⟨hm, hn⟩
        rcases List.mem_cons.1 hm with rfl | hm
        · exact absurd h hn
        · exact hm
    · rw [if_neg h, List.mem_cons, List.mem_cons, del_mem q p M hk.2]
      constructor
      · rintro (rfl | h')
        · exact ⟨.inl rfl, h⟩
        · exact ⟨.inr h'.1, h'.2⟩
      · rintro ⟨rfl | h', hn⟩
        · exact .inl rfl
        · exact .inr ⟨h', hn⟩
theorem KN_del (q : CL) : ∀ M : Tot, KN M → KN (delC M q)
  | [], _ => KN_nil
  | a :: M, hk => by
    have hk0 := hk
    unfold KN at hk
    rw [List.map_cons, List.nodup_cons] at hk
    rw [delC_cons]
    by_cases h : a.1 = q
    · rw [if_pos h]; exact hk.2
    · rw [if_neg h]
      unfold KN
      rw [List.map_cons, List.nodup_cons]
      refine ⟨fun hm => ?_, KN_del q M hk.2⟩
      obtain ⟨p, hp, e⟩ := List.mem_map.1 hm
      exact hk.1 (List.mem_map.2 ⟨p, ((del_mem q p M hk.2).1 hp).1, e⟩)
theorem cnt_del (q r : CL) (M : Tot) (hk : KN M) (h : r ≠ q) : cntC (delC M q) r = cntC M r := by
  induction M with
  | nil => rfl
  | cons a M ih =>
    unfold KN at hk
    rw [List.map_cons, List.nodup_cons] at hk
    rw [delC_cons]
    by_cases ha : a.1 = q
    · rw [if_pos ha, cntC_cons, if_neg (fun e => h (e.symm.trans ha))]
    · rw [if_neg ha, cntC_cons, cntC_cons, ih hk.2]
/-- the loop over those that live -/
theorem keep_fold (nx : Rul) : ∀ (s : List CL) (M : Tot) (acc : List CL), KN M → s.Nodup →
    (s.foldl (keepStep nx) (M, acc)).2 = acc ++ s.filter (fun c => nx c.f1 true (cntC M c)) ∧ KN (s.foldl (keepStep nx) (M, acc)).1 ∧ ∀ p, p ∈ (s.foldl (keepStep nx) (M, acc)).1 ↔ p ∈ M ∧ p.1 ∉ s
  | [], M, acc, hk, _ => by simp [hk]
  | c :: s, M, acc, hk, hs => by
    rw [List.nodup_cons] at hs
    rw [List.foldl_cons]
    obtain ⟨h1, h2, h3⟩ := keep_fold nx s (delC M c) (if nx c.f1 true (cntC M c) = true then acc ++ [c] else acc) (KN_del c M hk) hs.2
    refine ⟨?_, h2, fun p => ?_⟩
    · refine h1.trans ?_
      have e : s.filter (fun d => nx d.f1 true (cntC (delC M c) d)) = s.filter (fun d => nx d.f1 true (cntC M d)) := List.filter_congr fun d hd => by rw [cnt_del c d M hk (fun e => hs.1 (e ▸ hd))]
      rw [e, List.filter_cons]
      split <;> simp
    · refine (h3 p).trans ?_
      rw [del_mem c p M hk, List.mem_cons, not_or]
      exact ⟨fun h => ⟨h.1.1, h.1.2, h.2⟩, fun h => ⟨⟨h.1, h.2.1⟩, h.2.2⟩⟩
theorem raw_mem (nx : Rul) (M : Tot) (s : List CL) (hk : KN M) (hs : s.Nodup) (h0 : ∀ h, nx h false 0 = false) (x : CL) :
    x ∈ (keepL nx M s).2 ++ bornL nx (keepL nx M s).1 ↔ nx x.f1 (decide (x ∈ s)) (cntC M x) = true := by
  obtain ⟨h1, _, h3⟩ := keep_fold nx s M [] hk hs
  rw [List.mem_append]
  unfold keepL
  rw [h1, List.nil_append, List.mem_filter]
  unfold bornL
  simp only [List.mem_map, List.mem_filter, h3]
  by_cases hx : x ∈ s
  · rw [decide_eq_true hx]
    constructor
    · rintro (h | ⟨p, ⟨⟨_, hn⟩, _⟩, rfl⟩)
      · exact h.2
      · exact absurd hx hn
    · exact fun h => .inl ⟨hx, h⟩
  · rw [decide_eq_false hx]
    constructor
    · rintro (h | ⟨p, ⟨⟨hm, _⟩, hb⟩, rfl⟩)
      · exact absurd h.1 hx
      · rw [cnt_mem p.1 p.2 M hk hm]; exact hb
    · intro h
      refine .inr ⟨(x, cntC M x), ⟨⟨?_, hx⟩, h⟩, rfl⟩
      by_cases hm : x ∈ M.map (·.1)
      · obtain ⟨p, hp, rfl⟩ := List.mem_map.1 hm
        rw [cnt_mem p.1 p.2 M hk hp]
        exact hp
      · rw [cnt_no x M hm, h0] at h; cases h
/-- the keys of all neighbourhoods -/
theorem KN_tri (ds : List CL) : ∀ M : Tot, KN M → KN (ds.foldl triStep M) := by
  induction ds with
  | nil => exact fun M h => h
  | cons d ds ih => exact fun M h => ih _ (KN_put _ _ _ h)
theorem KN_hex (c : CL) (ks : List Nat) : ∀ M : Tot, KN M → KN (ks.foldl (hexStep c) M) := by
  induction ks with
  | nil => exact fun M h => h
  | cons d ds ih => exact fun M h => ih _ (KN_put _ _ _ h)
theorem KN_ar (l : Int) (s : List CL) : ∀ M : Tot, KN M → KN (s.foldl (arStep l) M) := by
  induction s with
  | nil => exact fun M h => h
  | cons c s ih =>
    intro M h
    refine ih _ ?_
    unfold arStep
    split
    · exact KN_hex c _ M h
    · exact KN_tri _ M h
theorem KN_arL (l : Int) (s : List CL) : KN (arL l s) := KN_ar l s [] KN_nil
theorem tri_key (ds : List CL) (r : CL) : ∀ M : Tot, r ∈ (ds.foldl triStep M).map (·.1) → r ∈ ds ∨ r ∈ M.map (·.1) := by
  induction ds with
  | nil => exact fun M h => .inr h
  | cons d ds ih =>
    intro M h
    rcases ih _ h with h | h
    · exact .inl (List.mem_cons_of_mem _ h)
    · rcases (put_key _ _ r M).1 h with e | e
      · exact .inl (by rw [e]; exact List.mem_cons_self)
      · exact .inr e
theorem hex_key (c : CL) (r : CL) (ks : List Nat) : ∀ M : Tot, r ∈ (ks.foldl (hexStep c) M).map (·.1) → r.f1 = 0 ∨ r ∈ M.map (·.1) := by
  induction ks with
  | nil => exact fun M h => .inr h
  | cons d ds ih =>
    intro M h
    rcases ih _ h with h | h
    · exact .inl h
    · rcases (put_key _ _ r M).1 h with e | e
      · exact .inl (by rw [e]; rfl)
      · exact .inr e
/-- a half that may be -/
def hOK (l h : Int) : Prop := (h = 0 ∨ h = 1) ∧ (l = 1 → h = 0)
theorem offs_hOK (l h : Int) (hl : 1 ≤ l ∧ l ≤ 3) : ∀ d ∈ offs l h, hOK l d.f1 := by
  obtain ⟨h1, h2⟩ := hl
  have : l = 1 ∨ l = 2 ∨ l = 3 := by omega
  intro d hd
  unfold offs at hd
  rcases this with rfl | rfl | rfl
  · rw [if_pos rfl] at hd
    exact (by decide : ∀ d ∈ [mk 0 (-1) 0, mk 1 (-1) 0, mk (-1) 0 0, mk 1 0 0, mk (-1) 1 0, mk 0 1 0], (d.f1 = 0 ∨ d.f1 = 1) ∧ ((1 : Int) = 1 → d.f1 = 0)) d hd
  · simp only [show ¬ ((2 : Int) = 1) by omega, ↓reduceIte] at hd
    split at hd
    · exact (by decide : ∀ d ∈ [mk 0 (-1) 1, mk (-1) 0 1, mk 0 0 1], (d.f1 = 0 ∨ d.f1 = 1) ∧ ((2 : Int) = 1 → d.f1 = 0)) d hd
    · exact (by decide : ∀ d ∈ [mk 0 0 0, mk 1 0 0, mk 0 1 0], (d.f1 = 0 ∨ d.f1 = 1) ∧ ((2 : Int) = 1 → d.f1 = 0)) d hd
  · simp only [show ¬ ((3 : Int) = 1) by omega, show ¬ ((3 : Int) = 2) by omega, ↓reduceIte] at hd
    split at hd
    · exact (by decide : ∀ d ∈ [mk (-1) (-1) 1, mk 0 (-1) 0, mk 0 (-1) 1, mk 1 (-1) 0, mk 1 (-1) 1, mk (-1) 0 0, mk (-1) 0 1, mk 0 0 1, mk 1 0 0, mk (-1) 1 0, mk (-1) 1 1, mk 0 1 0], (d.f1 = 0 ∨ d.f1 = 1) ∧ ((3 : Int) = 1 → d.f1 = 0)) d hd
    · exact (by decide : ∀ d ∈ [mk 0 (-1) 1, mk 1 (-1) 0, mk 1 (-1) 1, mk (-1) 0 1, mk 0 0 0, mk 1 0 0, mk 1 0 1, mk (-1) 1 0, mk (-1) 1 1, mk 0 1 0, mk 0 1 1, mk 1 1 0], (d.f1 = 0 ∨ d.f1 = 1) ∧ ((3 : Int) = 1 → d.f1 = 0)) d hd
theorem bes_hOK (l : Int) (c : CL) (hl : 1 ≤ l ∧ l ≤ 3) : ∀ d ∈ besL l c, hOK l d.f1 := by
  intro d hd
  obtain ⟨e, he, rfl⟩ := List.mem_map.1 hd
  exact offs_hOK l _ hl e he
theorem ar_key (l : Int) (hl : 1 ≤ l ∧ l ≤ 3) (r : CL) (s : List CL) : ∀ M : Tot, r ∈ (s.foldl (arStep l) M).map (·.1) → hOK l r.f1 ∨ r ∈ M.map (·.1) := by
  induction s with
  | nil => exact fun M h => .inr h
  | cons c s ih =>
    intro M h
    rcases ih _ h with h | h
    · exact .inl h
    · unfold arStep at h
      split at h
      · rcases hex_key c r _ M h with h | h
        · exact .inl ⟨.inl h, fun _ => h⟩
        · exact .inr h
      · rcases tri_key _ r M h with h | h
        · exact .inl (bes_hOK l c hl r h)
        · exact .inr h
theorem arL_key (l : Int) (hl : 1 ≤ l ∧ l ≤ 3) (r : CL) (s : List CL) (h : r ∈ (arL l s).map (·.1)) : hOK l r.f1 := by
  rcases ar_key l hl r s [] h with h | h
  · exact h
  · cases h
/-- those beside: both ways -/
theorem mut_pure (l r : Int) (hl : 1 ≤ l ∧ l ≤ 3) (hr : hOK l r) : (∀ y ∈ offs l r, (-1 ≤ y.f0.f0 ∧ y.f0.f0 ≤ 1 ∧ -1 ≤ y.f0.f1 ∧ y.f0.f1 ≤ 1) ∧ mk (-y.f0.f0) (-y.f0.f1) r ∈ offs l y.f1) ∧ (offs l r).Nodup := by
  obtain ⟨hr, h1⟩ := hr
  have : l = 1 ∨ l = 2 ∨ l = 3 := by omega
  rcases this with rfl | rfl | rfl
  · obtain rfl := h1 rfl
    exact ⟨by decide, by decide⟩
  · rcases hr with rfl | rfl <;> exact ⟨by decide, by decide⟩
  · rcases hr with rfl | rfl <;> exact ⟨by decide, by decide⟩
theorem bes_near (l : Int) (c d : CL) (hl : 1 ≤ l ∧ l ≤ 3) (hc : hOK l c.f1) (h : d ∈ besL l c) : c.f0.f0 - 1 ≤ d.f0.f0 ∧ d.f0.f0 ≤ c.f0.f0 + 1 ∧ c.f0.f1 - 1 ≤ d.f0.f1 ∧ d.f0.f1 ≤ c.f0.f1 + 1 := by
  obtain ⟨e, he, rfl⟩ := List.mem_map.1 h
  have := ((mut_pure l c.f1 hl hc).1 e he).1
  simp only [sh]
  omega
theorem bes_mut1 (l : Int) (c d : CL) (hl : 1 ≤ l ∧ l ≤ 3) (hc : hOK l c.f1) (h : d ∈ besL l c) : c ∈ besL l d := by
  obtain ⟨e, he, rfl⟩ := List.mem_map.1 h
  have h2 := ((mut_pure l c.f1 hl hc).1 e he).2
  refine List.mem_map.2 ⟨_, h2, ?_⟩
  refine cl_of ?_ ?_ ?_
  · simp only [sh, mk]; omega
  · simp only [sh, mk]; omega
  · rfl
theorem bes_mut (l : Int) (c d : CL) (hl : 1 ≤ l ∧ l ≤ 3) (hc : hOK l c.f1) (hd : hOK l d.f1) : d ∈ besL l c ↔ c ∈ besL l d := ⟨bes_mut1 l c d hl hc, bes_mut1 l d c hl hd⟩
theorem sh_inj' (a b : Int) {x y : CL} (h : sh a b x = sh a b y) : x = y := by
  have h0 := congrArg (fun z : CL => z.f0.f0) h
  have h1 := congrArg (fun z : CL => z.f0.f1) h
  have h2 := congrArg (fun z : CL => z.f1) h
  simp only [sh] at h0 h1 h2
  exact cl_of (by omega) (by omega) h2
theorem nd_map {α β : Type} (f : α → β) (hf : ∀ x y, f x = f y → x = y) : ∀ xs : List α, xs.Nodup → (xs.map f).Nodup
  | [], _ => List.nodup_nil
  | x :: xs, h => by
    rw [List.nodup_cons] at h
    rw [List.map_cons, List.nodup_cons]
    refine ⟨fun hm => ?_, nd_map f hf xs h.2⟩
    obtain ⟨y, hy, e⟩ := List.mem_map.1 hm
    exact h.1 (hf _ _ e ▸ hy)
theorem bes_nodup (l : Int) (c : CL) (hl : 1 ≤ l ∧ l ≤ 3) (hc : hOK l c.f1) : (besL l c).Nodup := nd_map _ (fun _ _ => sh_inj' _ _) _ (mut_pure l c.f1 hl hc).2
/-- how often one is told -/
theorem tri_cnt (q : CL) (ds : List CL) : ∀ M : Tot, ds.Nodup → cntC (ds.foldl triStep M) q = cntC M q + (if q ∈ ds then 1 else 0) := by
  induction ds with
  | nil => intro M _; simp
  | cons d ds ih =>
    intro M h
    rw [List.nodup_cons] at h
    rw [List.foldl_cons, ih _ h.2]
    unfold triStep
    rw [cnt_put]
    by_cases e : d = q
    · subst e
      rw [if_pos rfl, if_neg h.1, if_pos List.mem_cons_self]; omega
    · rw [if_neg e]
      congr 1
      simp only [List.mem_cons]
      by_cases hq : q ∈ ds
      · rw [if_pos hq, if_pos (.inr hq)]
      · rw [if_neg hq, if_neg (fun h => h.elim (fun e' => e e'.symm) hq)]
theorem ar_cnt (l : Int) (hl : 1 ≤ l ∧ l ≤ 3) (h1 : ¬ l = 1) (q : CL) (s : List CL) : ∀ M : Tot, (∀ c ∈ s, hOK l c.f1) → cntC (s.foldl (arStep l) M) q = cntC M q + ((s.filter fun c => decide (q ∈ besL l c)).length : Int) := by
  induction s with
  | nil => intro M _; simp
  | cons c s ih =>
    intro M h
    rw [List.foldl_cons, ih _ (fun d hd => h d (List.mem_cons_of_mem _ hd))]
    unfold arStep
    rw [if_neg h1, tri_cnt q _ M (bes_nodup l c hl (h c List.mem_cons_self)), List.filter_cons]
    by_cases e : q ∈ besL l c
    · simp [e]; omega
    · simp [e]
theorem both_len {α : Type} [DecidableEq α] (a b : List α) (ha : a.Nodup) (hb : b.Nodup) : (a.filter fun x => decide (x ∈ b)).length = (b.filter fun x => decide (x ∈ a)).length := by
  have h : (a.filter fun x => decide (x ∈ b)).Perm (b.filter fun x => decide (x ∈ a)) := by
    rw [List.perm_ext_iff_of_nodup (List.Pairwise.filter _ ha) (List.Pairwise.filter _ hb)]
    intro x
    simp [and_comm]
  exact h.length_eq
/-- hex: bit by bit -/
def bitOf (x : Int) (j : Nat) : Bool := x.toNat.testBit j
theorem or_bit : ∀ (x : Fin 64) (j k : Fin 6), (Go.bits .or .i64 (x.1 : Int) ((2 : Int) ^ j.1)).toNat.testBit k.1 = (x.1.testBit k.1 || decide (j.1 = k.1)) := by decide +kernel
theorem or_bit' (x : Int) (h0 : 0 ≤ x) (h1 : x ≤ 63) (j k : Nat) (hj : j < 6) (hk : k < 6) : bitOf (Go.bits .or .i64 x ((2 : Int) ^ j)) k = (bitOf x k || decide (j = k)) := by
  have := or_bit ⟨x.toNat, by omega⟩ ⟨j, hj⟩ ⟨k, hk⟩
  simp only [show ((x.toNat : Nat) : Int) = x from Int.toNat_of_nonneg h0] at this
  exact this
theorem bit_ext0 : ∀ (x y : Fin 64), (∀ j : Fin 6, x.1.testBit j.1 = y.1.testBit j.1) → x = y := by decide +kernel
theorem bit_ext (x y : Int) (h0 : 0 ≤ x) (h1 : x ≤ 63) (h2 : 0 ≤ y) (h3 : y ≤ 63) (h : ∀ j, j < 6 → bitOf x j = bitOf y j) : x = y := by
  have := bit_ext0 ⟨x.toNat, by omega⟩ ⟨y.toNat, by omega⟩ (fun j => h j.1 j.2)
  have := congrArg Fin.val this
  simp only at this
  omega
theorem hex_bit (c q : CL) (j : Nat) (hj : j < 6) (ks : List Nat) : ∀ M : Tot, Bd M 63 → bitOf (cntC (ks.foldl (hexStep c) M) q) j = (bitOf (cntC M q) j || ks.any fun k => decide (hexQ c k = q ∧ (k + 3) % 6 = j)) := by
  induction ks with
  | nil => intro M _; simp
  | cons k ks ih =>
    intro M h
    have hc := h.cnt (by omega) (hexQ c k)
    have hj6 : (k + 3) % 6 < 6 := Nat.mod_lt _ (by omega)
    obtain ⟨h1, h2⟩ := or63' _ hc.1 hc.2 ((k + 3) % 6) hj6
    rw [List.foldl_cons, ih (hexStep c M k) (h.put _ _ h1 h2), List.any_cons]
    unfold hexStep
    rw [cnt_put]
    by_cases e : hexQ c k = q
    · rw [if_pos e, or_bit' _ hc.1 hc.2 _ _ hj6 hj, e]
      simp [Bool.or_assoc]
    · rw [if_neg e]
      simp [e]
theorem six_back : ∀ k : Fin 6, ∀ j : Fin 6, (k.1 + 3) % 6 = j.1 → sxA k.1 = - sxA j.1 ∧ sxB k.1 = - sxB j.1 := by decide
theorem hex_any (c q : CL) (j : Nat) (hj : j < 6) (hc : c.f1 = 0) (hq : q.f1 = 0) : ((List.range 6).any fun k => decide (hexQ c k = q ∧ (k + 3) % 6 = j)) = decide (c = hexQ q j) := by
  rw [Bool.eq_iff_iff]
  simp only [List.any_eq_true, List.mem_range, decide_eq_true_eq]
  constructor
  · rintro ⟨k, hk, rfl, h2⟩
    have := six_back ⟨k, hk⟩ ⟨j, hj⟩ h2
    simp only at this
    refine cl_of ?_ ?_ ?_
    · simp only [hexQ, mk]; omega
    · simp only [hexQ, mk]; omega
    · rw [hc]; rfl
  · rintro rfl
    have hm : ((j + 3) % 6 + 3) % 6 = j := by omega
    refine ⟨(j + 3) % 6, Nat.mod_lt _ (by omega), ?_, hm⟩
    have := six_back ⟨(j + 3) % 6, Nat.mod_lt _ (by omega)⟩ ⟨j, hj⟩ hm
    simp only at this
    refine cl_of ?_ ?_ ?_
    · simp only [hexQ, mk]; omega
    · simp only [hexQ, mk]; omega
    · rw [hq]; rfl
theorem hex_cnt (q : CL) (hq : q.f1 = 0) (j : Nat) (hj : j < 6) (s : List CL) : ∀ M : Tot, Bd M 63 → (∀ c ∈ s, c.f1 = 0) → bitOf (cntC (s.foldl (arStep 1) M) q) j = (bitOf (cntC M q) j || decide (hexQ q j ∈ s)) := by
  induction s with
  | nil => intro M _ _; simp
  | cons c s ih =>
    intro M h hs
    have hb : Bd (arStep 1 M c) 63 := hex_bd c _ M h
    rw [List.foldl_cons, ih _ hb (fun d hd => hs d (List.mem_cons_of_mem _ hd))]
    have e : cntC (arStep 1 M c) q = cntC ((List.range 6).foldl (hexStep c) M) q := rfl
    rw [e, hex_bit c q j hj _ M h, hex_any c q j hj (hs c List.mem_cons_self) hq, Bool.or_assoc]
    congr 1
    rw [Bool.eq_iff_iff]
    simp only [Bool.or_eq_true, decide_eq_true_eq, List.mem_cons]
    constructor
    · rintro (h | h)
      · exact .inl h.symm
      · exact .inr h
    · rintro (h | h)
      · exact .inl h.symm
      · exact .inr h
def b2 (p : Bool) (n : Int) : Int := if p = true then n else 0
/-- the six that may be beside a cell, as a number -/
def hexN (s : List CL) (q : CL) : Int := b2 (decide (hexQ q 0 ∈ s)) 1 + b2 (decide (hexQ q 1 ∈ s)) 2 + b2 (decide (hexQ q 2 ∈ s)) 4 + b2 (decide (hexQ q 3 ∈ s)) 8 + b2 (decide (hexQ q 4 ∈ s)) 16 + b2 (decide (hexQ q 5 ∈ s)) 32
theorem six_bits : ∀ (p0 p1 p2 p3 p4 p5 : Bool), (0 ≤ b2 p0 1 + b2 p1 2 + b2 p2 4 + b2 p3 8 + b2 p4 16 + b2 p5 32 ∧ b2 p0 1 + b2 p1 2 + b2 p2 4 + b2 p3 8 + b2 p4 16 + b2 p5 32 ≤ 63) ∧
    bitOf (b2 p0 1 + b2 p1 2 + b2 p2 4 + b2 p3 8 + b2 p4 16 + b2 p5 32) 0 = p0 ∧ bitOf (b2 p0 1 + b2 p1 2 + b2 p2 4 + b2 p3 8 + b2 p4 16 + b2 p5 32) 1 = p1 ∧ bitOf (b2 p0 1 + b2 p1 2 + b2 p2 4 + b2 p3 8 + b2 p4 16 + b2 p5 32) 2 = p2 ∧
    bitOf (b2 p0 1 + b2 p1 2 + b2 p2 4 + b2 p3 8 + b2 p4 16 + b2 p5 32) 3 = p3 ∧ bitOf (b2 p0 1 + b2 p1 2 + b2 p2 4 + b2 p3 8 + b2 p4 16 + b2 p5 32) 4 = p4 ∧ bitOf (b2 p0 1 + b2 p1 2 + b2 p2 4 + b2 p3 8 + b2 p4 16 + b2 p5 32) 5 = p5 := by decide +kernel
theorem hexN_bd (s : List CL) (q : CL) : 0 ≤ hexN s q ∧ hexN s q ≤ 63 := (six_bits _ _ _ _ _ _).1
theorem hexN_bit (s : List CL) (q : CL) (j : Nat) (hj : j < 6) : bitOf (hexN s q) j = decide (hexQ q j ∈ s) := by
  obtain ⟨_, h0, h1, h2, h3, h4, h5⟩ := six_bits (decide (hexQ q 0 ∈ s)) (decide (hexQ q 1 ∈ s)) (decide (hexQ q 2 ∈ s)) (decide (hexQ q 3 ∈ s)) (decide (hexQ q 4 ∈ s)) (decide (hexQ q 5 ∈ s))
  have : j = 0 ∨ j = 1 ∨ j = 2 ∨ j = 3 ∨ j = 4 ∨ j = 5 := by omega
  rcases this with rfl | rfl | rfl | rfl | rfl | rfl
  · exact h0
  · exact h1
  · exact h2
  · exact h3
  · exact h4
  · exact h5
/-- the neighbourhood of a cell in a set -/
def ngh (l : Int) (s : List CL) (q : CL) : Int := if l = 1 then hexN s q else (((besL l q).filter fun d => decide (d ∈ s)).length : Int)
theorem cnt_arL (l : Int) (hl : 1 ≤ l ∧ l ≤ 3) (s : List CL) (hn : s.Nodup) (hs : ∀ c ∈ s, hOK l c.f1) (q : CL) (hq : hOK l q.f1) : cntC (arL l s) q = ngh l s q := by
  unfold ngh
  by_cases h1 : l = 1
  · rw [if_pos h1]
    subst h1
    have hb := ar_bd_hex s [] (Bd_nil 63)
    have hc := hb.cnt (by omega) q
    refine bit_ext _ _ hc.1 hc.2 (hexN_bd s q).1 (hexN_bd s q).2 (fun j hj => ?_)
    rw [hexN_bit s q j hj]
    have := hex_cnt q (hq.2 rfl) j hj s [] (Bd_nil 63) (fun c hc => (hs c hc).2 rfl)
    refine this.trans ?_
    rw [show bitOf (cntC [] q) j = false by simp [cntC, bitOf], Bool.false_or]
  · rw [if_neg h1]
    unfold arL
    rw [ar_cnt l hl h1 q s [] hs, show cntC [] q = 0 from rfl, Int.zero_add]
    congr 1
    rw [← both_len s (besL l q) hn (bes_nodup l q hl hq)]
    congr 1
    exact List.filter_congr fun c hc => by rw [decide_eq_decide]; exact bes_mut l c q hl (hs c hc) hq
/-- who lives then -/
theorem next_mem (nx : Rul) (l : Int) (hl : 1 ≤ l ∧ l ≤ 3) (h0 : ∀ h, nx h false 0 = false) (s : List CL) (hn : s.Nodup) (hs : ∀ c ∈ s, hOK l c.f1) (x : CL) :
    x ∈ nextL nx l s ↔ hOK l x.f1 ∧ nx x.f1 (decide (x ∈ s)) (ngh l s x) = true := by
  have h := raw_mem nx (arL l s) s (KN_arL l s) hn h0 x
  unfold nextL nextRaw
  rw [ofL_mem, h]
  by_cases hx : hOK l x.f1
  · rw [cnt_arL l hl s hn hs x hx]
    exact ⟨fun h => ⟨hx, h⟩, fun h => h.2⟩
  · have hxs : x ∉ s := fun h => hx (hs x h)
    have hk : x ∉ (arL l s).map (·.1) := fun h => hx (arL_key l hl x s h)
    rw [cnt_no x _ hk, decide_eq_false hxs, h0]
    exact ⟨fun h => (by cases h), fun h => absurd h.1 hx⟩
theorem hexQ_bes (q : CL) (j : Nat) (hj : j < 6) : hexQ q j ∈ besL 1 q := by
  refine List.mem_map.2 ⟨mk (sxA j) (sxB j) 0, ?_, rfl⟩
  have : ∀ j : Fin 6, mk (sxA j.1) (sxB j.1) 0 ∈ offs 1 q.f1 := by
    unfold offs
    rw [if_pos rfl]
    decide
  exact this ⟨j, hj⟩
/-- the neighbourhood is of those beside alone -/
theorem ngh_congr (l : Int) (s s' : List CL) (q : CL) (h : ∀ d ∈ besL l q, d ∈ s ↔ d ∈ s') : ngh l s q = ngh l s' q := by
  unfold ngh
  by_cases h1 : l = 1
  · subst h1
    rw [if_pos rfl, if_pos rfl]
    have e : ∀ j, j < 6 → decide (hexQ q j ∈ s) = decide (hexQ q j ∈ s') := fun j hj => by rw [decide_eq_decide]; exact h _ (hexQ_bes q j hj)
    unfold hexN
    rw [e 0 (by omega), e 1 (by omega), e 2 (by omega), e 3 (by omega), e 4 (by omega), e 5 (by omega)]
  · rw [if_neg h1, if_neg h1]
    congr 2
    exact List.filter_congr fun d hd => by rw [decide_eq_decide]; exact h d hd
theorem ngh_nil (l : Int) (q : CL) : ngh l [] q = 0 := by
  unfold ngh
  split
  · simp [hexN, b2]
  · simp
theorem ngh_ne (l : Int) (s : List CL) (q : CL) (h : ¬ ngh l s q = 0) : ∃ d ∈ besL l q, d ∈ s := by
  apply Classical.byContradiction
  intro hn
  refine h ((ngh_congr l s [] q fun d hd => ?_).trans (ngh_nil l q))
  exact ⟨fun hm => absurd ⟨d, hd, hm⟩ hn, fun hm => by cases hm⟩
theorem next_near (nx : Rul) (l : Int) (hl : 1 ≤ l ∧ l ≤ 3) (h0 : ∀ h, nx h false 0 = false) (s : List CL) (hn : s.Nodup) (hs : ∀ c ∈ s, hOK l c.f1) (x : CL) (hx : x ∈ nextL nx l s) :
    ∃ c ∈ s, c.f0.f0 - 1 ≤ x.f0.f0 ∧ x.f0.f0 ≤ c.f0.f0 + 1 ∧ c.f0.f1 - 1 ≤ x.f0.f1 ∧ x.f0.f1 ≤ c.f0.f1 + 1 := by
  obtain ⟨hok, h⟩ := (next_mem nx l hl h0 s hn hs x).1 hx
  by_cases hxs : x ∈ s
  · exact ⟨x, hxs, by omega, by omega, by omega, by omega⟩
  · rw [decide_eq_false hxs] at h
    obtain ⟨d, hd, hds⟩ := ngh_ne l s x (fun e => by rw [e, h0] at h; cases h)
    have := bes_near l x d hl hok hd
    exact ⟨d, hds, by omega, by omega, by omega, by omega⟩
theorem next_srt (nx : Rul) (l : Int) (s : List CL) : Srt (nextL nx l s) := ofL_srt _
theorem srt_nodup {s : List CL} (h : Srt s) : s.Nodup := h.imp fun {a b} hab e => by subst e; exact ltC_irrefl _ hab
/-- so many generations -/
def stepsL (nx : Rul) (l : Int) : Nat → List CL → List CL
  | 0, s => s
  | n + 1, s => stepsL nx l n (nextL nx l s)
theorem stepsL_nil (nx : Rul) (l : Int) (hl : 1 ≤ l ∧ l ≤ 3) (h0 : ∀ h, nx h false 0 = false) : ∀ n, stepsL nx l n [] = []
  | 0 => rfl
  | n + 1 => by
    have : nextL nx l [] = [] := by
      apply List.eq_nil_iff_forall_not_mem.2
      intro x hx
      obtain ⟨c, hc, _⟩ := next_near nx l hl h0 [] List.nodup_nil (fun c hc => by cases hc) x hx
      cases hc
    rw [stepsL, this]
    exact stepsL_nil nx l hl h0 n
end Go.Proofs.YtaeenefdbahfoaaDoor
namespace Go.Proofs.YtaeenefdbahfoaaDoor
set_option linter.unusedSimpArgs false
set_option linter.unusedVariables false
open Go.RowKit Go.Proofs.YtaeenefdbahfoaaDoorW.PrintWords Go.Proofs.YtaeenefdbahfoaaDoorW.PrintLast Go.Proofs.YtaeenefdbahfoaaDoorW.PrintMore
open H
open Go.Shelf Go.RowKit Go.Lib Go.Sort
/-- an element's cells, and another cell's; nothing has turned that was there -/
abbrev SB (B : Nat) (w0 : World) (ad : Addr) (g : Nat) (x y : CL) (W : World) : Prop :=
  W.cell? ad = some (.int .i64 x.f0.f0) ∧ W.cell? ⟨ad.block, ad.off + 1, none⟩ = some (.int .i64 x.f0.f1) ∧ W.cell? ⟨ad.block, ad.off + 2, none⟩ = some (.int .i64 x.f1) ∧ W.cell? ⟨g, 0, none⟩ = some (.int .i64 y.f0.f0) ∧ W.cell? ⟨g, 1, none⟩ = some (.int .i64 y.f0.f1) ∧ W.cell? ⟨g, 2, none⟩ = some (.int .i64 y.f1) ∧ Below B w0 W ∧ B ≤ W.heap.size
theorem SB.below {B : Nat} {w0 : World} {ad : Addr} {g : Nat} {x y : CL} {W w1 : World} (h : SB B w0 ad g x y W) (hb : Below W.heap.size W w1) : SB B w0 ad g x y w1 := by
  obtain ⟨h0, h1, h2, h3, h4, h5, h6, h7⟩ := h
  exact ⟨pw_cell_below hb h0, pw_cell_below hb h1, pw_cell_below hb h2, pw_cell_below hb h3, pw_cell_below hb h4, pw_cell_below hb h5, h6.trans (hb.mono h7), Nat.le_trans h7 hb.size⟩
end Go.Proofs.YtaeenefdbahfoaaDoor
namespace Go.Proofs.YtaeenefdbahfoaaDoor
set_option linter.unusedSimpArgs false
set_option linter.unusedVariables false
open Go.RowKit Go.Proofs.YtaeenefdbahfoaaDoorW.PrintWords Go.Proofs.YtaeenefdbahfoaaDoorW.PrintLast Go.Proofs.YtaeenefdbahfoaaDoorW.PrintMore
open H
open Go.Shelf Go.RowKit Go.Lib Go.Sort
end Go.Proofs.YtaeenefdbahfoaaDoor
namespace Go.Proofs.YtaeenefdbahfoaaDoor
set_option linter.unusedSimpArgs false
set_option linter.unusedVariables false
open Go.RowKit Go.Proofs.YtaeenefdbahfoaaDoorW.PrintWords Go.Proofs.YtaeenefdbahfoaaDoorW.PrintLast Go.Proofs.YtaeenefdbahfoaaDoorW.PrintMore
open H
def XWrap.f (_what : ByteArray) (_at : Int) (e : Option Int) : Option (Option Int) := match e with
  | none => some none
  | some _ => none
theorem XWrap.calls (a0 : ByteArray) (a1 : Int) (a2 : Option Int) (r : Option Int) (w : World) (h : XWrap.f a0 a1 a2 = some r) :
    Calls Tryd.prog 60 #[.string a0, .int .i64 a1, errW a2] w fun e w' => e = .returned (errW r) ∧ Below w.heap.size w w' := by
  cases a2 with
  | some q => cases h
  | none =>
    obtain rfl := Option.some.inj h
    rw [errW_none]
    go_enter Tryd.func60, Tryd.ntmps60
    go_wp2
    go_ret
    exact ⟨rfl, (by with_reducible repeat (first | apply below_alloc | apply pw_below_drewN | apply below_drew | refine bset ?_ _ _ (by omega) _ | exact Below.refl _ _))⟩
end Go.Proofs.YtaeenefdbahfoaaDoor
namespace Go.Proofs.YtaeenefdbahfoaaDoor.H
open Go.RowKit Go.Proofs.YtaeenefdbahfoaaDoorW.PrintWords Go.Proofs.YtaeenefdbahfoaaDoorW.PrintLast Go.Proofs.YtaeenefdbahfoaaDoorW.PrintMore
attribute [local go_sem] max2_int min2_int max_two min_two max_three min_three max_four min_four   -- for this text's walks alone
set_option linter.unusedVariables false
set_option linter.unusedSimpArgs false
def set_Set_Check.l0 : Nat → List (S65) → Int → List (S65) → Int → Int → Option (Option Int)
 | 0, _, _, _, _, _ => none
 | k + 1, x0, x1, x12, x13, x14 => if x14 < x13 then (if 0 ≤ x14 then (if x14 < (x12.length : Int) then ((cell_Lattice_Check.f k x1 ((rd_T65 x12 x14).f0.f0) ((rd_T65 x12 x14).f0.f1) ((rd_T65 x12 x14).f1)).bind fun t273 => (if t273.isNone = true then (if x14 > 0 then (if 0 ≤ (wrap64 (x14 - 1)) then (if (wrap64 (x14 - 1)) < (x0.length : Int) then ((cell_Compare.f k ((rd_T65 x0 (wrap64 (x14 - 1))).f0.f0) ((rd_T65 x0 (wrap64 (x14 - 1))).f0.f1) ((rd_T65 x0 (wrap64 (x14 - 1))).f1) ((rd_T65 x12 x14).f0.f0) ((rd_T65 x12 x14).f0.f1) ((rd_T65 x12 x14).f1)).bind fun t276 => (if t276 ≥ 0 then ((XWrap.f (⟨#[99, 101, 108, 108]⟩ : ByteArray) x14 (some 1)).bind fun t277 => (some t277)) else (set_Set_Check.l0 k x0 x1 x12 x13 (wrap64 (x14 + 1))))) else (none)) else (none)) else (set_Set_Check.l0 k x0 x1 x12 x13 (wrap64 (x14 + 1)))) else ((XWrap.f (⟨#[99, 101, 108, 108]⟩ : ByteArray) x14 (some (t273.getD 0))).bind fun t278 => (some t278)))) else (none)) else (none)) else (some none)
def set_Set_Check.f (k : Nat) (l0 : List (S65)) (a1 : Int) : Option (Option Int) := (cell_Lattice_Good.f a1).bind fun t270 => (if t270 = true then (set_Set_Check.l0 k l0 a1 l0 (l0.length : Int) 0) else (some (some 11)))
def set_Set_Check.T9 : Bool × List (List Nat × List Nat) := (true, [([], []), ([0], [0]), ([1], [1]), ([2], [2]), ([2], [2]), ([4, 2], [2, 4]), ([3, 5, 2], [2, 3, 5]), ([6, 2], [2, 6]), ([2], [2]), ([7, 8, 2, 2], [2, 7, 8]), ([9, 2], [2, 9]), ([2, 10], [2, 10])])
def set_Set_Check.B9 : List Nat := [0, 1, 3, 7, 7, 23, 63, 127, 7, 511, 1023, 2047]
theorem set_Set_Check.tab9 : rtab .any (opsOf Tryd.f43 9) = set_Set_Check.T9 := by kernel_rfl
theorem set_Set_Check.bits9 : waitsOk set_Set_Check.T9.2 set_Set_Check.B9 = true := by kernel_rfl
set_option maxHeartbeats 8000000 in
set_option maxRecDepth 100000 in
theorem set_Set_Check.calls (k : Nat) (A0 : Option Addr) (c0 : Nat) (l0 : List (S65)) (a1 : Int) (r : Option Int) (w : World) (hr0 : Kd.C k65 w A0 l0.length l0) (hc0 : l0.length ≤ c0) (h : set_Set_Check.f k l0 a1 = some r) :
  Calls Tryd.prog 43 #[.slice A0 l0.length c0, .int .i64 a1] w fun e w' => e = .returned (errW r) ∧ Below w.heap.size w w' := by
 have hu65 := Tryd.underlying65
 have hu39 := Tryd.underlying39
 have hu87 := Tryd.underlying87
 have HR0 := Aside0.mk hr0
 have HC0 := Aside0.mk hc0
 clear hr0 hc0
 have HB := Aside0.mk (Below.refl w.heap.size w)
 have H : ((cell_Lattice_Good.f a1).bind fun t270 => (if t270 = true then (set_Set_Check.l0 k l0 a1 l0 (l0.length : Int) 0) else (some (some 11)))) = some r := h
 clear h
 replace H := Option.bind_eq_some_iff.mp H
 obtain ⟨t270, A30, H⟩ := H
 replace H : (if t270 = true then (set_Set_Check.l0 k l0 a1 l0 (l0.length : Int) 0) else (some (some 11))) = some r := H
 have A3 := Aside0.mk A30
 clear A30
 by_cases c4 : t270 = true
 ·
  subst c4
  have H1 : (set_Set_Check.l0 k l0 a1 l0 (l0.length : Int) 0) = some r := by rw [if_pos rfl] at H; exact H
  clear H
  have H := H1
  clear H1
  have H' := Aside0.mk H
  clear H
  go_enter Tryd.func43, Tryd.ntmps43
  go_wp2_with (first | ((with_reducible refine gate_callee (f := 80) rfl ?_); refine goesL_ (some 9) rfl rfl Tryd.func80 (by kernel_rfl) rfl #[.int .i64 a1] rfl (by (try simp only [List.map_toArray, List.map_cons, List.map_nil]); first | done | rfl | (simp only [List.length_drop, List.length_take]; rfl)) ?_; (with_reducible refine (cell_Lattice_Good.calls a1 true _ A3.out).mono ?_); rintro e w' ⟨rfl, ⟨nd, rfl⟩⟩; refine ⟨_, rfl, ?_⟩))
  go_loopg [14] k (fun kq v14 w' => ∃ (x14_1 : Int), v14 = .int .i64 x14_1 ∧ Aside0 (set_Set_Check.l0 kq l0 a1 l0 (l0.length : Int) x14_1 = some r) ∧ Aside0 (kq ≤ k) ∧ Aside0 (Below w.heap.size w w'))
  case atStart => exact ⟨(0), (by first | rfl | (simp; done) | (simp [*]; done)), H', ⟨Nat.le_refl _⟩, ⟨by repeat (first | (with_reducible first | exact HB.out | apply ba_ | apply bn_ | apply bd_) | exact HB.out)⟩⟩
  case round =>
   clear H'
   try clear p2
   try clear c4
   obtain ⟨x14_1, rfl, HA, HK1, HB⟩ := hrel
   cases gk with
   | zero => exact absurd HA.out (by simp [set_Set_Check.l0])
   | succ k1 =>
    have H := HA.out
    clear HA
    simp only [set_Set_Check.l0] at H
    by_cases c5 : x14_1 < (l0.length : Int)
    ·
     rw [if_pos c5] at H
     have c5b0 : decide (x14_1 < (l0.length : Int)) = true := decide_eq_true c5
     clear c5
     by_cases c6 : 0 ≤ x14_1
     ·
      rw [if_pos c6] at H
      have c6b0 : decide (0 ≤ x14_1) = true := decide_eq_true c6
      clear c6
      by_cases c7 : x14_1 < (l0.length : Int)
      ·
       rw [if_pos c7] at H
       have c7b0 : decide (x14_1 < (l0.length : Int)) = true := decide_eq_true c7
       clear c7
       replace H := Option.bind_eq_some_iff.mp H
       obtain ⟨t273, A80, H⟩ := H
       replace H : (if t273.isNone = true then (if x14_1 > 0 then (if 0 ≤ (wrap64 (x14_1 - 1)) then (if (wrap64 (x14_1 - 1)) < (l0.length : Int) then ((cell_Compare.f k1 ((rd_T65 l0 (wrap64 (x14_1 - 1))).f0.f0) ((rd_T65 l0 (wrap64 (x14_1 - 1))).f0.f1) ((rd_T65 l0 (wrap64 (x14_1 - 1))).f1) ((rd_T65 l0 x14_1).f0.f0) ((rd_T65 l0 x14_1).f0.f1) ((rd_T65 l0 x14_1).f1)).bind fun t276 => (if t276 ≥ 0 then ((XWrap.f (⟨#[99, 101, 108, 108]⟩ : ByteArray) x14_1 (some 1)).bind fun t277 => (some t277)) else (set_Set_Check.l0 k1 l0 a1 l0 (l0.length : Int) (wrap64 (x14_1 + 1))))) else (none)) else (none)) else (set_Set_Check.l0 k1 l0 a1 l0 (l0.length : Int) (wrap64 (x14_1 + 1)))) else ((XWrap.f (⟨#[99, 101, 108, 108]⟩ : ByteArray) x14_1 (some (t273.getD 0))).bind fun t278 => (some t278))) = some r := H
       have A8 := Aside0.mk A80
       clear A80
       rcases t273 with _ | q274
       ·
        have H1 : (if x14_1 > 0 then (if 0 ≤ (wrap64 (x14_1 - 1)) then (if (wrap64 (x14_1 - 1)) < (l0.length : Int) then ((cell_Compare.f k1 ((rd_T65 l0 (wrap64 (x14_1 - 1))).f0.f0) ((rd_T65 l0 (wrap64 (x14_1 - 1))).f0.f1) ((rd_T65 l0 (wrap64 (x14_1 - 1))).f1) ((rd_T65 l0 x14_1).f0.f0) ((rd_T65 l0 x14_1).f0.f1) ((rd_T65 l0 x14_1).f1)).bind fun t276 => (if t276 ≥ 0 then ((XWrap.f (⟨#[99, 101, 108, 108]⟩ : ByteArray) x14_1 (some 1)).bind fun t277 => (some t277)) else (set_Set_Check.l0 k1 l0 a1 l0 (l0.length : Int) (wrap64 (x14_1 + 1))))) else (none)) else (none)) else (set_Set_Check.l0 k1 l0 a1 l0 (l0.length : Int) (wrap64 (x14_1 + 1)))) = some r := by rw [if_pos (show (none : Option Int).isNone = true by rfl)] at H; exact H
        clear H
        have H := H1
        clear H1
        try simp only [errW_none, errW_some]
        by_cases c9 : x14_1 > 0
        ·
         rw [if_pos c9] at H
         have c9b0 : decide (0 < x14_1) = true := decide_eq_true c9
         clear c9
         obtain ⟨ji10, hji10⟩ : ∃ j_ : Int, (wrap64 (x14_1 - 1)) = j_ := ⟨_, rfl⟩
         replace H : (if 0 ≤ (ji10) then (if (ji10) < (l0.length : Int) then ((cell_Compare.f k1 ((rd_T65 l0 (ji10)).f0.f0) ((rd_T65 l0 (ji10)).f0.f1) ((rd_T65 l0 (ji10)).f1) ((rd_T65 l0 x14_1).f0.f0) ((rd_T65 l0 x14_1).f0.f1) ((rd_T65 l0 x14_1).f1)).bind fun t276 => (if t276 ≥ 0 then ((XWrap.f (⟨#[99, 101, 108, 108]⟩ : ByteArray) x14_1 (some 1)).bind fun t277 => (some t277)) else (set_Set_Check.l0 k1 l0 a1 l0 (l0.length : Int) (wrap64 (x14_1 + 1))))) else (none)) else (none)) = some r := by first | (rw [hji10] at H; exact H) | (simp only [hji10] at H ⊢; exact H)
         (try rw [hji10] at A8)
         have hji10w : (IntKind.i64.wrap (x14_1 - 1)) = ji10 := (i64_w _).trans hji10
         by_cases c11 : 0 ≤ (ji10)
         ·
          rw [if_pos c11] at H
          have c11b0 : decide (0 ≤ (ji10)) = true := decide_eq_true c11
          clear c11
          by_cases c12 : (ji10) < (l0.length : Int)
          ·
           rw [if_pos c12] at H
           have c12b0 : decide ((ji10) < (l0.length : Int)) = true := decide_eq_true c12
           clear c12
           replace H := Option.bind_eq_some_iff.mp H
           obtain ⟨t276, A130, H⟩ := H
           replace H : (if t276 ≥ 0 then ((XWrap.f (⟨#[99, 101, 108, 108]⟩ : ByteArray) x14_1 (some 1)).bind fun t277 => (some t277)) else (set_Set_Check.l0 k1 l0 a1 l0 (l0.length : Int) (wrap64 (x14_1 + 1)))) = some r := H
           have A13 := Aside0.mk A130
           clear A130
           by_cases c14 : t276 ≥ 0
           ·
            rw [if_pos c14] at H
            have c14b0 : decide (0 ≤ t276) = true := decide_eq_true c14
            clear c14
            replace H := Option.bind_eq_some_iff.mp H
            obtain ⟨t277, A150, H⟩ := H
            replace H : (some t277) = some r := H
            have A15 := Aside0.mk A150
            clear A150
            obtain rfl := Option.some.inj H
            have p271 : 0 ≤ (x14_1 : Int) := of_decide_eq_true (by first | (with_reducible assumption) | assumption)
            have q271 : x14_1 < (l0.length : Int) := of_decide_eq_true (by first | (with_reducible assumption) | assumption)
            obtain ⟨ad271, e271, hx271_0, hx271_1, hx271_2⟩ := at_T65 HR0.out x14_1 p271 q271
            cases e271
            try replace hx271_0 := (HB.out.cell (World.block_lt_of_cell? w _ hx271_0)).trans hx271_0
            try replace hx271_1 := (HB.out.cell (World.block_lt_of_cell? w _ hx271_1)).trans hx271_1
            try replace hx271_2 := (HB.out.cell (World.block_lt_of_cell? w _ hx271_2)).trans hx271_2
            replace p271 := eq_true p271
            replace q271 := eq_true q271
            try go_wp2_with (first | ((with_reducible refine gate_dst (N := 6) rfl ?_); refine box_event ?hg (N := 6) ?hd (cs := #[.int .i64 0, .int .i64 0, .int .i64 0]) (t := 65) ?hr ?_; (case hd => rfl); (case hg => rfl); (case hr => first | (go_simp; done) | (go_simp; rfl)); intro gb272 hg w16 hbox hb; have n0_ := Aside0.mk (below_step (by repeat (first | (with_reducible first | exact HB.out | apply ba_ | apply bn_ | apply bd_) | exact HB.out)) hb); have n1_ := Aside0.mk (hbox); have n2_ := Aside0.mk ((by rw [hg]; exact (below_size (by repeat (first | (with_reducible first | exact HB.out | apply ba_ | apply bn_ | apply bd_) | exact HB.out))) : w.heap.size ≤ gb272)); have n3_ := Aside0.mk ((by rw [hg]; exact (below_size (by repeat (first | (with_reducible first | exact HB.out | apply ba_ | apply bn_ | apply bd_) | exact HB.out))) : w.heap.size ≤ gb272)); clear HB; have HB := n0_; have BK272 := n1_; have GW272 := n2_; have GE272 := n3_; clear n0_ n1_ n2_ n3_; clear hb hbox hg; have hcz17_0 : w16.cell? ⟨gb272, 0, none⟩ = some (.int .i64 0) := (blk_cell BK272.out 0).trans rfl; have hcz17_1 : w16.cell? ⟨gb272, 1, none⟩ = some (.int .i64 0) := (blk_cell BK272.out 1).trans rfl; have hcz17_2 : w16.cell? ⟨gb272, 2, none⟩ = some (.int .i64 0) := (blk_cell BK272.out 2).trans rfl; have hfz17_0 := blk_frozen BK272.out 0; have hfz17_1 := blk_frozen BK272.out 1; have hfz17_2 := blk_frozen BK272.out 2) | ((with_reducible refine gate_callee (f := 81) rfl ?_); refine goesL_ (some 21) rfl rfl Tryd.func81 (by kernel_rfl) rfl #[.int .i64 a1, .agg #[.int .i64 ((rd_T65 l0 x14_1).f0.f0), .int .i64 ((rd_T65 l0 x14_1).f0.f1), .int .i64 ((rd_T65 l0 x14_1).f1)]] rfl (by (try simp only [List.map_toArray, List.map_cons, List.map_nil]); first | done | rfl | (simp only [List.length_drop, List.length_take]; rfl)) ?_; (with_reducible refine (cell_Lattice_Check.calls k1 a1 ((rd_T65 l0 x14_1).f0.f0) ((rd_T65 l0 x14_1).f0.f1) ((rd_T65 l0 x14_1).f1) none _ A8.out).mono ?_); rintro e w18 ⟨rfl, hb⟩; refine ⟨_, rfl, ?_⟩; have n0_ := Aside0.mk (blk_below (g := gb272) (o := .cells #[.int .i64 ((rd_T65 l0 x14_1).f0.f0), .int .i64 ((rd_T65 l0 x14_1).f0.f1), .int .i64 ((rd_T65 l0 x14_1).f1)] 65 (0, 0)) (by (with_reducible repeat (first | apply bN_ | apply bD_ | apply bA_)); refine blk_put (cs := #[.int .i64 ((rd_T65 l0 x14_1).f0.f0), .int .i64 ((rd_T65 l0 x14_1).f0.f1), .int .i64 0]) ?_ 2 _ rfl; (with_reducible repeat (first | apply bN_ | apply bD_ | apply bA_)); refine blk_put (cs := #[.int .i64 ((rd_T65 l0 x14_1).f0.f0), .int .i64 0, .int .i64 0]) ?_ 1 _ rfl; (with_reducible repeat (first | apply bN_ | apply bD_ | apply bA_)); refine blk_put (cs := #[.int .i64 0, .int .i64 0, .int .i64 0]) ?_ 0 _ rfl; (with_reducible repeat (first | apply bN_ | apply bD_ | apply bA_)); exact BK272.out) hb); have n1_ := Aside0.mk (below_step (by repeat (first | (with_reducible first | exact HB.out | apply ba_ | apply bn_ | apply bd_ | refine below_set ?_ GE272.out) | exact HB.out)) hb); clear BK272; clear HB; have BK272 := n0_; have HB := n1_; clear n0_ n1_; (try clear hb); (try clear hb2); (try clear hk); (try clear hi); (try simp only [errW_none, errW_some])))
            have n0_ := Aside0.mk (blk_drew BK272.out)
            have n1_ := Aside0.mk (below_drew1 HB.out)
            clear BK272
            clear HB
            have BK272 := n0_
            have HB := n1_
            clear n0_ n1_
            have p275 : 0 ≤ ((ji10) : Int) := of_decide_eq_true (by first | (with_reducible assumption) | assumption)
            have q275 : (ji10) < (l0.length : Int) := of_decide_eq_true (by first | (with_reducible assumption) | assumption)
            obtain ⟨ad275, e275, hx275_0, hx275_1, hx275_2⟩ := at_T65 HR0.out (ji10) p275 q275
            have hw275_2 := hx275_2
            have hw275_1 := hx275_1
            have hw275_0 := hx275_0
            obtain rfl : ad271 = ad275 := (by injection e275)
            try replace hx275_0 := (HB.out.cell (World.block_lt_of_cell? w _ hx275_0)).trans hx275_0
            try replace hx275_1 := (HB.out.cell (World.block_lt_of_cell? w _ hx275_1)).trans hx275_1
            try replace hx275_2 := (HB.out.cell (World.block_lt_of_cell? w _ hx275_2)).trans hx275_2
            replace p275 := eq_true p275
            replace q275 := eq_true q275
            refine start_ (n := 12) (S := fun w' => w'.cell? ⟨gb272, 0, none⟩ = some (.int .i64 ((rd_T65 l0 x14_1).f0.f0)) ∧ w'.cell? ⟨gb272, 1, none⟩ = some (.int .i64 ((rd_T65 l0 x14_1).f0.f1)) ∧ w'.cell? ⟨gb272, 2, none⟩ = some (.int .i64 ((rd_T65 l0 x14_1).f1)) ∧ w'.cell? (ad271.add (((ji10)).toNat * 3)) = some (.int .i64 ((rd_T65 l0 (ji10)).f0.f0)) ∧ w'.cell? ⟨(ad271.add (((ji10)).toNat * 3)).block, (ad271.add (((ji10)).toNat * 3)).off + 1, none⟩ = some (.int .i64 ((rd_T65 l0 (ji10)).f0.f1)) ∧ w'.cell? ⟨(ad271.add (((ji10)).toNat * 3)).block, (ad271.add (((ji10)).toNat * 3)).off + 2, none⟩ = some (.int .i64 ((rd_T65 l0 (ji10)).f1))) (ds := []) #[false, false, false, false, false, false, false, false, false, false, false, false] (by kernel_rfl) rfl rfl ⟨(blk_cell BK272.out 0).trans rfl, (blk_cell BK272.out 1).trans rfl, (blk_cell BK272.out 2).trans rfl, (by first | exact ((HB.out.cell (World.block_lt_of_cell? w _ hw275_0)).trans hw275_0) | exact hw275_0), (by first | exact ((HB.out.cell (World.block_lt_of_cell? w _ hw275_1)).trans hw275_1) | exact hw275_1), (by first | exact ((HB.out.cell (World.block_lt_of_cell? w _ hw275_2)).trans hw275_2) | exact hw275_2)⟩ (fun hHeld => ?_); refine with_tabW set_Set_Check.tab9 set_Set_Check.bits9 (fun HT_ HW_ => ?_)
            generalize w18.drew = w19 at BK272 HB hx275_0 hx275_1 hx275_2 hHeld ⊢
            refine pure_ (i := 0) (N := some 27) (v := ?_) (a' := ?_) #[true, false, false, false, false, false, false, false, false, false, false, false] rfl rfl (any_of HT_.out (by kernel_rfl)) (fun _ _ _ h => h) (Or.inl ⟨by rfl, ?_⟩) ?_ ?_
            rotate_left
            ·
             intro w'
             go_simp
             with_reducible rfl
            rotate_left
            ·
             simp only [Act.put, List.setIfInBounds_toArray, List.set_cons_zero, List.set_cons_succ, i64_w, i32_w]
             rfl
            refine pure_ (i := 1) (N := some 28) (v := ?_) (a' := ?_) #[true, true, false, false, false, false, false, false, false, false, false, false] rfl rfl (any_of HT_.out (by kernel_rfl)) (fun _ _ _ h => h) (Or.inl ⟨by rfl, ?_⟩) ?_ ?_
            rotate_left
            ·
             intro w'
             go_simp
             with_reducible rfl
            rotate_left
            ·
             simp only [Act.put, List.setIfInBounds_toArray, List.set_cons_zero, List.set_cons_succ, i64_w, i32_w]
             rfl
            refine pure_ (i := 2) (N := some 29) (v := ?_) (a' := ?_) #[true, true, true, false, false, false, false, false, false, false, false, false] rfl rfl (any_of HT_.out (by kernel_rfl)) (fun _ _ _ h => h) (Or.inl ⟨by rfl, ?_⟩) ?_ ?_
            rotate_left
            ·
             intro w'
             go_simp
             with_reducible rfl
            rotate_left
            ·
             simp only [Act.put, List.setIfInBounds_toArray, List.set_cons_zero, List.set_cons_succ, i64_w, i32_w]
             rfl
            refine pure_ (i := 3) (N := some 30) (v := ?_) (a' := ?_) #[true, true, true, true, false, false, false, false, false, false, false, false] rfl rfl (any_of HT_.out (by kernel_rfl)) (fun _ _ _ h => h) (Or.inl ⟨by rfl, ?_⟩) ?_ ?_
            rotate_left
            ·
             intro w'
             go_simp
             with_reducible rfl
            rotate_left
            ·
             simp only [Act.put, List.setIfInBounds_toArray, List.set_cons_zero, List.set_cons_succ, i64_w, i32_w]
             rfl
            refine pure_ (i := 4) (N := some 31) (v := ?_) (a' := ?_) #[true, true, true, true, true, false, false, false, false, false, false, false] rfl rfl (any_of HT_.out (by kernel_rfl)) (fun _ _ _ h => h) (Or.inl ⟨by rfl, ?_⟩) ?_ ?_
            rotate_left
            ·
             intro w'
             go_simp
             with_reducible rfl
            rotate_left
            ·
             simp only [Act.put, List.setIfInBounds_toArray, List.set_cons_zero, List.set_cons_succ, i64_w, i32_w]
             rfl
            refine pure_ (i := 5) (N := some 32) (v := ?_) (a' := ?_) #[true, true, true, true, true, true, false, false, false, false, false, false] rfl rfl (any_of HT_.out (by kernel_rfl)) (fun _ _ _ h => h) (Or.inl ⟨by rfl, ?_⟩) ?_ ?_
            rotate_left
            ·
             intro w'
             go_simp
             with_reducible rfl
            rotate_left
            ·
             simp only [Act.put, List.setIfInBounds_toArray, List.set_cons_zero, List.set_cons_succ, i64_w, i32_w]
             rfl
            refine pure_ (i := 6) (N := some 33) (v := ?_) (a' := ?_) #[true, true, true, true, true, true, true, false, false, false, false, false] rfl rfl (any_of HT_.out (by kernel_rfl)) (fun _ _ _ h => h) (Or.inl ⟨by rfl, ?_⟩) ?_ ?_
            rotate_left
            ·
             intro w'
             go_simp
             with_reducible rfl
            rotate_left
            ·
             simp only [Act.put, List.setIfInBounds_toArray, List.set_cons_zero, List.set_cons_succ, i64_w, i32_w]
             rfl
            refine take_ (i := 7) (N := some 34) (v := ?_) (a' := ?_) #[true, true, true, true, true, true, true, true, false, false, false, false] rfl rfl (take_ofW HT_.out HW_.out (by kernel_rfl)) (fun _ _ _ h => h) (Or.inl ⟨by rfl, ?_⟩) hHeld ?_ ?_
            rotate_left
            ·
             rintro w' ⟨s0, s1, s2, s3, s4, s5⟩
             go_simp
             with_reducible rfl
            rotate_left
            ·
             simp only [Act.put, List.setIfInBounds_toArray, List.set_cons_zero, List.set_cons_succ, i64_w, i32_w]
             rfl
            refine take_ (i := 8) (N := some 35) (v := ?_) (a' := ?_) #[true, true, true, true, true, true, true, true, true, false, false, false] rfl rfl (take_ofW HT_.out HW_.out (by kernel_rfl)) (fun _ _ _ h => h) (Or.inl ⟨by rfl, ?_⟩) hHeld ?_ ?_
            rotate_left
            ·
             rintro w' ⟨s0, s1, s2, s3, s4, s5⟩
             go_simp
             with_reducible rfl
            rotate_left
            ·
             simp only [Act.put, List.setIfInBounds_toArray, List.set_cons_zero, List.set_cons_succ, i64_w, i32_w]
             rfl
            refine one_ (i := 9) (N := some 36) #[true, true, true, true, true, true, true, true, true, true, false, false] rfl rfl (one_of HT_.out (by kernel_rfl)) (by decide) (fun K hK => ?_)
            refine goes_ Tryd.func75 (by kernel_rfl) rfl #[.agg #[.int .i64 ((rd_T65 l0 (ji10)).f0.f0), .int .i64 ((rd_T65 l0 (ji10)).f0.f1), .int .i64 ((rd_T65 l0 (ji10)).f1)], .agg #[.int .i64 ((rd_T65 l0 x14_1).f0.f0), .int .i64 ((rd_T65 l0 x14_1).f0.f1), .int .i64 ((rd_T65 l0 x14_1).f1)]] (by rfl) rfl rfl (by (try simp only [List.map_toArray, List.map_cons, List.map_nil]); first | done | (simp only [hji10]; rfl) | rfl | (simp only [List.length_drop, List.length_take]; rfl)) ?_
            with_reducible refine (cell_Compare.calls k1 ((rd_T65 l0 (ji10)).f0.f0) ((rd_T65 l0 (ji10)).f0.f1) ((rd_T65 l0 (ji10)).f1) ((rd_T65 l0 x14_1).f0.f0) ((rd_T65 l0 x14_1).f0.f1) ((rd_T65 l0 x14_1).f1) t276 _ A13.out).mono ?_
            rintro e w20 ⟨rfl, hb⟩
            refine ⟨_, rfl, ?_⟩
            have n0_ := Aside0.mk (blk_below (g := gb272) (o := .cells #[.int .i64 ((rd_T65 l0 x14_1).f0.f0), .int .i64 ((rd_T65 l0 x14_1).f0.f1), .int .i64 ((rd_T65 l0 x14_1).f1)] 65 (0, 0)) (by (with_reducible repeat (first | apply bN_ | apply bD_ | apply bA_)); exact BK272.out) hb)
            have n1_ := Aside0.mk (below_step (by repeat (first | (with_reducible first | exact HB.out | apply ba_ | apply bn_ | apply bd_ | refine below_set ?_ GE272.out) | exact HB.out)) hb)
            clear BK272
            clear HB
            have BK272 := n0_
            have HB := n1_
            clear n0_ n1_
            (try clear hb)
            (try clear hb2)
            (try clear hk)
            (try clear hi)
            refine hK.out _ _ ⟨(blk_cell BK272.out 0).trans rfl, (blk_cell BK272.out 1).trans rfl, (blk_cell BK272.out 2).trans rfl, ((HB.out.cell (World.block_lt_of_cell? w _ hw275_0)).trans hw275_0), ((HB.out.cell (World.block_lt_of_cell? w _ hw275_1)).trans hw275_1), ((HB.out.cell (World.block_lt_of_cell? w _ hw275_2)).trans hw275_2)⟩ (fun hHeld => ?_)
            clear hK K
            refine norm_ (a' := ?_) ?_ ?_
            rotate_left
            ·
             show Act.put _ (some 36) _ = _
             simp only [Act.put, List.setIfInBounds_toArray, List.set_cons_zero, List.set_cons_succ, i64_w, i32_w]
             rfl
            refine pure_ (i := 10) (N := some 37) (v := ?_) (a' := ?_) #[true, true, true, true, true, true, true, true, true, true, true, false] rfl rfl (any_of HT_.out (by kernel_rfl)) (fun _ _ _ h => h) (Or.inl ⟨by rfl, ?_⟩) ?_ ?_
            rotate_left
            ·
             intro w'
             go_simp
             with_reducible rfl
            rotate_left
            ·
             simp only [Act.put, List.setIfInBounds_toArray, List.set_cons_zero, List.set_cons_succ, i64_w, i32_w]
             rfl
            refine pure_ (i := 11) (N := some 38) (v := ?_) (a' := ?_) #[true, true, true, true, true, true, true, true, true, true, true, true] rfl rfl (any_of HT_.out (by kernel_rfl)) (fun _ _ _ h => h) (Or.inl ⟨by rfl, ?_⟩) ?_ ?_
            rotate_left
            ·
             intro w'
             go_simp
             with_reducible rfl
            rotate_left
            ·
             simp only [Act.put, List.setIfInBounds_toArray, List.set_cons_zero, List.set_cons_succ, i64_w, i32_w]
             rfl
            refine done_ (done_of HT_.out (by kernel_rfl)) ?_
            have CA15 := fun W => XWrap.calls (⟨#[99, 101, 108, 108]⟩ : ByteArray) x14_1 (some 1) t277 W A15.out
            try simp only [errW_none, errW_some] at CA15
            try go_wp2_with (first | (go_at_call 60; (with_reducible refine (CA15 _).mono ?_); rintro e w21 ⟨rfl, hb⟩; have n0_ := Aside0.mk (blk_below (g := gb272) (o := .cells #[.int .i64 ((rd_T65 l0 x14_1).f0.f0), .int .i64 ((rd_T65 l0 x14_1).f0.f1), .int .i64 ((rd_T65 l0 x14_1).f1)] 65 (0, 0)) (by (with_reducible repeat (first | apply bN_ | apply bD_ | apply bA_)); exact BK272.out) hb); have n1_ := Aside0.mk (below_step (by repeat (first | (with_reducible first | exact HB.out | apply ba_ | apply bn_ | apply bd_ | refine below_set ?_ GE272.out) | exact HB.out)) hb); clear BK272; clear HB; have BK272 := n0_; have HB := n1_; clear n0_ n1_; (try clear hb); (try clear hb2); (try clear hk); (try clear hi); (try simp only [errW_none, errW_some])))
            go_ret
            exact ⟨by first | rfl | (simp [errW_none, errW_some] <;> rfl) | (simp only [← hji10]; first | rfl | (simp [errW_none, errW_some] <;> rfl)) | (simp [*, errW_none, errW_some] <;> rfl), by repeat (first | (with_reducible first | exact HB.out | apply ba_ | apply bn_ | apply bd_ | refine below_set ?_ GE272.out) | exact HB.out)⟩
           ·
            rw [if_neg c14] at H
            have c14b0 : decide (0 ≤ t276) = false := decide_eq_false c14
            clear c14
            have H' := Aside0.mk H
            clear H
            have p271 : 0 ≤ (x14_1 : Int) := of_decide_eq_true (by first | (with_reducible assumption) | assumption)
            have q271 : x14_1 < (l0.length : Int) := of_decide_eq_true (by first | (with_reducible assumption) | assumption)
            obtain ⟨ad271, e271, hx271_0, hx271_1, hx271_2⟩ := at_T65 HR0.out x14_1 p271 q271
            cases e271
            try replace hx271_0 := (HB.out.cell (World.block_lt_of_cell? w _ hx271_0)).trans hx271_0
            try replace hx271_1 := (HB.out.cell (World.block_lt_of_cell? w _ hx271_1)).trans hx271_1
            try replace hx271_2 := (HB.out.cell (World.block_lt_of_cell? w _ hx271_2)).trans hx271_2
            replace p271 := eq_true p271
            replace q271 := eq_true q271
            try go_wp2_with (first | ((with_reducible refine gate_dst (N := 6) rfl ?_); refine box_event ?hg (N := 6) ?hd (cs := #[.int .i64 0, .int .i64 0, .int .i64 0]) (t := 65) ?hr ?_; (case hd => rfl); (case hg => rfl); (case hr => first | (go_simp; done) | (go_simp; rfl)); intro gb272 hg w22 hbox hb; have n0_ := Aside0.mk (below_step (by repeat (first | (with_reducible first | exact HB.out | apply ba_ | apply bn_ | apply bd_) | exact HB.out)) hb); have n1_ := Aside0.mk (hbox); have n2_ := Aside0.mk ((by rw [hg]; exact (below_size (by repeat (first | (with_reducible first | exact HB.out | apply ba_ | apply bn_ | apply bd_) | exact HB.out))) : w.heap.size ≤ gb272)); have n3_ := Aside0.mk ((by rw [hg]; exact (below_size (by repeat (first | (with_reducible first | exact HB.out | apply ba_ | apply bn_ | apply bd_) | exact HB.out))) : w.heap.size ≤ gb272)); clear HB; have HB := n0_; have BK272 := n1_; have GW272 := n2_; have GE272 := n3_; clear n0_ n1_ n2_ n3_; clear hb hbox hg; have hcz23_0 : w22.cell? ⟨gb272, 0, none⟩ = some (.int .i64 0) := (blk_cell BK272.out 0).trans rfl; have hcz23_1 : w22.cell? ⟨gb272, 1, none⟩ = some (.int .i64 0) := (blk_cell BK272.out 1).trans rfl; have hcz23_2 : w22.cell? ⟨gb272, 2, none⟩ = some (.int .i64 0) := (blk_cell BK272.out 2).trans rfl; have hfz23_0 := blk_frozen BK272.out 0; have hfz23_1 := blk_frozen BK272.out 1; have hfz23_2 := blk_frozen BK272.out 2) | ((with_reducible refine gate_callee (f := 81) rfl ?_); refine goesL_ (some 21) rfl rfl Tryd.func81 (by kernel_rfl) rfl #[.int .i64 a1, .agg #[.int .i64 ((rd_T65 l0 x14_1).f0.f0), .int .i64 ((rd_T65 l0 x14_1).f0.f1), .int .i64 ((rd_T65 l0 x14_1).f1)]] rfl (by (try simp only [List.map_toArray, List.map_cons, List.map_nil]); first | done | rfl | (simp only [List.length_drop, List.length_take]; rfl)) ?_; (with_reducible refine (cell_Lattice_Check.calls k1 a1 ((rd_T65 l0 x14_1).f0.f0) ((rd_T65 l0 x14_1).f0.f1) ((rd_T65 l0 x14_1).f1) none _ A8.out).mono ?_); rintro e w24 ⟨rfl, hb⟩; refine ⟨_, rfl, ?_⟩; have n0_ := Aside0.mk (blk_below (g := gb272) (o := .cells #[.int .i64 ((rd_T65 l0 x14_1).f0.f0), .int .i64 ((rd_T65 l0 x14_1).f0.f1), .int .i64 ((rd_T65 l0 x14_1).f1)] 65 (0, 0)) (by (with_reducible repeat (first | apply bN_ | apply bD_ | apply bA_)); refine blk_put (cs := #[.int .i64 ((rd_T65 l0 x14_1).f0.f0), .int .i64 ((rd_T65 l0 x14_1).f0.f1), .int .i64 0]) ?_ 2 _ rfl; (with_reducible repeat (first | apply bN_ | apply bD_ | apply bA_)); refine blk_put (cs := #[.int .i64 ((rd_T65 l0 x14_1).f0.f0), .int .i64 0, .int .i64 0]) ?_ 1 _ rfl; (with_reducible repeat (first | apply bN_ | apply bD_ | apply bA_)); refine blk_put (cs := #[.int .i64 0, .int .i64 0, .int .i64 0]) ?_ 0 _ rfl; (with_reducible repeat (first | apply bN_ | apply bD_ | apply bA_)); exact BK272.out) hb); have n1_ := Aside0.mk (below_step (by repeat (first | (with_reducible first | exact HB.out | apply ba_ | apply bn_ | apply bd_ | refine below_set ?_ GE272.out) | exact HB.out)) hb); clear BK272; clear HB; have BK272 := n0_; have HB := n1_; clear n0_ n1_; (try clear hb); (try clear hb2); (try clear hk); (try clear hi); (try simp only [errW_none, errW_some])))
            have n0_ := Aside0.mk (blk_drew BK272.out)
            have n1_ := Aside0.mk (below_drew1 HB.out)
            clear BK272
            clear HB
            have BK272 := n0_
            have HB := n1_
            clear n0_ n1_
            have p275 : 0 ≤ ((ji10) : Int) := of_decide_eq_true (by first | (with_reducible assumption) | assumption)
            have q275 : (ji10) < (l0.length : Int) := of_decide_eq_true (by first | (with_reducible assumption) | assumption)
            obtain ⟨ad275, e275, hx275_0, hx275_1, hx275_2⟩ := at_T65 HR0.out (ji10) p275 q275
            have hw275_2 := hx275_2
            have hw275_1 := hx275_1
            have hw275_0 := hx275_0
            obtain rfl : ad271 = ad275 := (by injection e275)
            try replace hx275_0 := (HB.out.cell (World.block_lt_of_cell? w _ hx275_0)).trans hx275_0
            try replace hx275_1 := (HB.out.cell (World.block_lt_of_cell? w _ hx275_1)).trans hx275_1
            try replace hx275_2 := (HB.out.cell (World.block_lt_of_cell? w _ hx275_2)).trans hx275_2
            replace p275 := eq_true p275
            replace q275 := eq_true q275
            refine start_ (n := 12) (S := fun w' => w'.cell? ⟨gb272, 0, none⟩ = some (.int .i64 ((rd_T65 l0 x14_1).f0.f0)) ∧ w'.cell? ⟨gb272, 1, none⟩ = some (.int .i64 ((rd_T65 l0 x14_1).f0.f1)) ∧ w'.cell? ⟨gb272, 2, none⟩ = some (.int .i64 ((rd_T65 l0 x14_1).f1)) ∧ w'.cell? (ad271.add (((ji10)).toNat * 3)) = some (.int .i64 ((rd_T65 l0 (ji10)).f0.f0)) ∧ w'.cell? ⟨(ad271.add (((ji10)).toNat * 3)).block, (ad271.add (((ji10)).toNat * 3)).off + 1, none⟩ = some (.int .i64 ((rd_T65 l0 (ji10)).f0.f1)) ∧ w'.cell? ⟨(ad271.add (((ji10)).toNat * 3)).block, (ad271.add (((ji10)).toNat * 3)).off + 2, none⟩ = some (.int .i64 ((rd_T65 l0 (ji10)).f1))) (ds := []) #[false, false, false, false, false, false, false, false, false, false, false, false] (by kernel_rfl) rfl rfl ⟨(blk_cell BK272.out 0).trans rfl, (blk_cell BK272.out 1).trans rfl, (blk_cell BK272.out 2).trans rfl, (by first | exact ((HB.out.cell (World.block_lt_of_cell? w _ hw275_0)).trans hw275_0) | exact hw275_0), (by first | exact ((HB.out.cell (World.block_lt_of_cell? w _ hw275_1)).trans hw275_1) | exact hw275_1), (by first | exact ((HB.out.cell (World.block_lt_of_cell? w _ hw275_2)).trans hw275_2) | exact hw275_2)⟩ (fun hHeld => ?_); refine with_tabW set_Set_Check.tab9 set_Set_Check.bits9 (fun HT_ HW_ => ?_)
            generalize w24.drew = w25 at BK272 HB hx275_0 hx275_1 hx275_2 hHeld ⊢
            refine pure_ (i := 0) (N := some 27) (v := ?_) (a' := ?_) #[true, false, false, false, false, false, false, false, false, false, false, false] rfl rfl (any_of HT_.out (by kernel_rfl)) (fun _ _ _ h => h) (Or.inl ⟨by rfl, ?_⟩) ?_ ?_
            rotate_left
            ·
             intro w'
             go_simp
             with_reducible rfl
            rotate_left
            ·
             simp only [Act.put, List.setIfInBounds_toArray, List.set_cons_zero, List.set_cons_succ, i64_w, i32_w]
             rfl
            refine pure_ (i := 1) (N := some 28) (v := ?_) (a' := ?_) #[true, true, false, false, false, false, false, false, false, false, false, false] rfl rfl (any_of HT_.out (by kernel_rfl)) (fun _ _ _ h => h) (Or.inl ⟨by rfl, ?_⟩) ?_ ?_
            rotate_left
            ·
             intro w'
             go_simp
             with_reducible rfl
            rotate_left
            ·
             simp only [Act.put, List.setIfInBounds_toArray, List.set_cons_zero, List.set_cons_succ, i64_w, i32_w]
             rfl
            refine pure_ (i := 2) (N := some 29) (v := ?_) (a' := ?_) #[true, true, true, false, false, false, false, false, false, false, false, false] rfl rfl (any_of HT_.out (by kernel_rfl)) (fun _ _ _ h => h) (Or.inl ⟨by rfl, ?_⟩) ?_ ?_
            rotate_left
            ·
             intro w'
             go_simp
             with_reducible rfl
            rotate_left
            ·
             simp only [Act.put, List.setIfInBounds_toArray, List.set_cons_zero, List.set_cons_succ, i64_w, i32_w]
             rfl
            refine pure_ (i := 3) (N := some 30) (v := ?_) (a' := ?_) #[true, true, true, true, false, false, false, false, false, false, false, false] rfl rfl (any_of HT_.out (by kernel_rfl)) (fun _ _ _ h => h) (Or.inl ⟨by rfl, ?_⟩) ?_ ?_
            rotate_left
            ·
             intro w'
             go_simp
             with_reducible rfl
            rotate_left
            ·
             simp only [Act.put, List.setIfInBounds_toArray, List.set_cons_zero, List.set_cons_succ, i64_w, i32_w]
             rfl
            refine pure_ (i := 4) (N := some 31) (v := ?_) (a' := ?_) #[true, true, true, true, true, false, false, false, false, false, false, false] rfl rfl (any_of HT_.out (by kernel_rfl)) (fun _ _ _ h => h) (Or.inl ⟨by rfl, ?_⟩) ?_ ?_
            rotate_left
            ·
             intro w'
             go_simp
             with_reducible rfl
            rotate_left
            ·
             simp only [Act.put, List.setIfInBounds_toArray, List.set_cons_zero, List.set_cons_succ, i64_w, i32_w]
             rfl
            refine pure_ (i := 5) (N := some 32) (v := ?_) (a' := ?_) #[true, true, true, true, true, true, false, false, false, false, false, false] rfl rfl (any_of HT_.out (by kernel_rfl)) (fun _ _ _ h => h) (Or.inl ⟨by rfl, ?_⟩) ?_ ?_
            rotate_left
            ·
             intro w'
             go_simp
             with_reducible rfl
            rotate_left
            ·
             simp only [Act.put, List.setIfInBounds_toArray, List.set_cons_zero, List.set_cons_succ, i64_w, i32_w]
             rfl
            refine pure_ (i := 6) (N := some 33) (v := ?_) (a' := ?_) #[true, true, true, true, true, true, true, false, false, false, false, false] rfl rfl (any_of HT_.out (by kernel_rfl)) (fun _ _ _ h => h) (Or.inl ⟨by rfl, ?_⟩) ?_ ?_
            rotate_left
            ·
             intro w'
             go_simp
             with_reducible rfl
            rotate_left
            ·
             simp only [Act.put, List.setIfInBounds_toArray, List.set_cons_zero, List.set_cons_succ, i64_w, i32_w]
             rfl
            refine take_ (i := 7) (N := some 34) (v := ?_) (a' := ?_) #[true, true, true, true, true, true, true, true, false, false, false, false] rfl rfl (take_ofW HT_.out HW_.out (by kernel_rfl)) (fun _ _ _ h => h) (Or.inl ⟨by rfl, ?_⟩) hHeld ?_ ?_
            rotate_left
            ·
             rintro w' ⟨s0, s1, s2, s3, s4, s5⟩
             go_simp
             with_reducible rfl
            rotate_left
            ·
             simp only [Act.put, List.setIfInBounds_toArray, List.set_cons_zero, List.set_cons_succ, i64_w, i32_w]
             rfl
            refine take_ (i := 8) (N := some 35) (v := ?_) (a' := ?_) #[true, true, true, true, true, true, true, true, true, false, false, false] rfl rfl (take_ofW HT_.out HW_.out (by kernel_rfl)) (fun _ _ _ h => h) (Or.inl ⟨by rfl, ?_⟩) hHeld ?_ ?_
            rotate_left
            ·
             rintro w' ⟨s0, s1, s2, s3, s4, s5⟩
             go_simp
             with_reducible rfl
            rotate_left
            ·
             simp only [Act.put, List.setIfInBounds_toArray, List.set_cons_zero, List.set_cons_succ, i64_w, i32_w]
             rfl
            refine one_ (i := 9) (N := some 36) #[true, true, true, true, true, true, true, true, true, true, false, false] rfl rfl (one_of HT_.out (by kernel_rfl)) (by decide) (fun K hK => ?_)
            refine goes_ Tryd.func75 (by kernel_rfl) rfl #[.agg #[.int .i64 ((rd_T65 l0 (ji10)).f0.f0), .int .i64 ((rd_T65 l0 (ji10)).f0.f1), .int .i64 ((rd_T65 l0 (ji10)).f1)], .agg #[.int .i64 ((rd_T65 l0 x14_1).f0.f0), .int .i64 ((rd_T65 l0 x14_1).f0.f1), .int .i64 ((rd_T65 l0 x14_1).f1)]] (by rfl) rfl rfl (by (try simp only [List.map_toArray, List.map_cons, List.map_nil]); first | done | (simp only [hji10]; rfl) | rfl | (simp only [List.length_drop, List.length_take]; rfl)) ?_
            with_reducible refine (cell_Compare.calls k1 ((rd_T65 l0 (ji10)).f0.f0) ((rd_T65 l0 (ji10)).f0.f1) ((rd_T65 l0 (ji10)).f1) ((rd_T65 l0 x14_1).f0.f0) ((rd_T65 l0 x14_1).f0.f1) ((rd_T65 l0 x14_1).f1) t276 _ A13.out).mono ?_
            rintro e w26 ⟨rfl, hb⟩
            refine ⟨_, rfl, ?_⟩
            have n0_ := Aside0.mk (blk_below (g := gb272) (o := .cells #[.int .i64 ((rd_T65 l0 x14_1).f0.f0), .int .i64 ((rd_T65 l0 x14_1).f0.f1), .int .i64 ((rd_T65 l0 x14_1).f1)] 65 (0, 0)) (by (with_reducible repeat (first | apply bN_ | apply bD_ | apply bA_)); exact BK272.out) hb)
            have n1_ := Aside0.mk (below_step (by repeat (first | (with_reducible first | exact HB.out | apply ba_ | apply bn_ | apply bd_ | refine below_set ?_ GE272.out) | exact HB.out)) hb)
            clear BK272
            clear HB
            have BK272 := n0_
            have HB := n1_
            clear n0_ n1_
            (try clear hb)
            (try clear hb2)
            (try clear hk)
            (try clear hi)
            refine hK.out _ _ ⟨(blk_cell BK272.out 0).trans rfl, (blk_cell BK272.out 1).trans rfl, (blk_cell BK272.out 2).trans rfl, ((HB.out.cell (World.block_lt_of_cell? w _ hw275_0)).trans hw275_0), ((HB.out.cell (World.block_lt_of_cell? w _ hw275_1)).trans hw275_1), ((HB.out.cell (World.block_lt_of_cell? w _ hw275_2)).trans hw275_2)⟩ (fun hHeld => ?_)
            clear hK K
            refine norm_ (a' := ?_) ?_ ?_
            rotate_left
            ·
             show Act.put _ (some 36) _ = _
             simp only [Act.put, List.setIfInBounds_toArray, List.set_cons_zero, List.set_cons_succ, i64_w, i32_w]
             rfl
            refine pure_ (i := 10) (N := some 37) (v := ?_) (a' := ?_) #[true, true, true, true, true, true, true, true, true, true, true, false] rfl rfl (any_of HT_.out (by kernel_rfl)) (fun _ _ _ h => h) (Or.inl ⟨by rfl, ?_⟩) ?_ ?_
            rotate_left
            ·
             intro w'
             go_simp
             with_reducible rfl
            rotate_left
            ·
             simp only [Act.put, List.setIfInBounds_toArray, List.set_cons_zero, List.set_cons_succ, i64_w, i32_w]
             rfl
            refine pure_ (i := 11) (N := some 38) (v := ?_) (a' := ?_) #[true, true, true, true, true, true, true, true, true, true, true, true] rfl rfl (any_of HT_.out (by kernel_rfl)) (fun _ _ _ h => h) (Or.inl ⟨by rfl, ?_⟩) ?_ ?_
            rotate_left
            ·
             intro w'
             go_simp
             with_reducible rfl
            rotate_left
            ·
             simp only [Act.put, List.setIfInBounds_toArray, List.set_cons_zero, List.set_cons_succ, i64_w, i32_w]
             rfl
            refine done_ (done_of HT_.out (by kernel_rfl)) ?_
            try go_wp2
            go_roundg k1
            case measure => have := HK1.out; omega
            case rel => exact ⟨(wrap64 (x14_1 + 1)), (by first | rfl | (simp; done) | (simp [*]; done)), H', ⟨by have := HK1.out; omega⟩, ⟨by repeat (first | (with_reducible first | exact HB.out | apply ba_ | apply bn_ | apply bd_ | refine below_set ?_ GE272.out) | exact HB.out)⟩⟩
          ·
           rw [if_neg c12] at H
           exact absurd H (by simp)
         ·
          rw [if_neg c11] at H
          exact absurd H (by simp)
        ·
         rw [if_neg c9] at H
         have c9b0 : decide (0 < x14_1) = false := decide_eq_false c9
         clear c9
         have H' := Aside0.mk H
         clear H
         have p271 : 0 ≤ (x14_1 : Int) := of_decide_eq_true (by first | (with_reducible assumption) | assumption)
         have q271 : x14_1 < (l0.length : Int) := of_decide_eq_true (by first | (with_reducible assumption) | assumption)
         obtain ⟨ad271, e271, hx271_0, hx271_1, hx271_2⟩ := at_T65 HR0.out x14_1 p271 q271
         cases e271
         try replace hx271_0 := (HB.out.cell (World.block_lt_of_cell? w _ hx271_0)).trans hx271_0
         try replace hx271_1 := (HB.out.cell (World.block_lt_of_cell? w _ hx271_1)).trans hx271_1
         try replace hx271_2 := (HB.out.cell (World.block_lt_of_cell? w _ hx271_2)).trans hx271_2
         replace p271 := eq_true p271
         replace q271 := eq_true q271
         try go_wp2_with (first | ((with_reducible refine gate_dst (N := 6) rfl ?_); refine box_event ?hg (N := 6) ?hd (cs := #[.int .i64 0, .int .i64 0, .int .i64 0]) (t := 65) ?hr ?_; (case hd => rfl); (case hg => rfl); (case hr => first | (go_simp; done) | (go_simp; rfl)); intro gb272 hg w27 hbox hb; have n0_ := Aside0.mk (below_step (by repeat (first | (with_reducible first | exact HB.out | apply ba_ | apply bn_ | apply bd_) | exact HB.out)) hb); have n1_ := Aside0.mk (hbox); have n2_ := Aside0.mk ((by rw [hg]; exact (below_size (by repeat (first | (with_reducible first | exact HB.out | apply ba_ | apply bn_ | apply bd_) | exact HB.out))) : w.heap.size ≤ gb272)); have n3_ := Aside0.mk ((by rw [hg]; exact (below_size (by repeat (first | (with_reducible first | exact HB.out | apply ba_ | apply bn_ | apply bd_) | exact HB.out))) : w.heap.size ≤ gb272)); clear HB; have HB := n0_; have BK272 := n1_; have GW272 := n2_; have GE272 := n3_; clear n0_ n1_ n2_ n3_; clear hb hbox hg; have hcz28_0 : w27.cell? ⟨gb272, 0, none⟩ = some (.int .i64 0) := (blk_cell BK272.out 0).trans rfl; have hcz28_1 : w27.cell? ⟨gb272, 1, none⟩ = some (.int .i64 0) := (blk_cell BK272.out 1).trans rfl; have hcz28_2 : w27.cell? ⟨gb272, 2, none⟩ = some (.int .i64 0) := (blk_cell BK272.out 2).trans rfl; have hfz28_0 := blk_frozen BK272.out 0; have hfz28_1 := blk_frozen BK272.out 1; have hfz28_2 := blk_frozen BK272.out 2) | ((with_reducible refine gate_callee (f := 81) rfl ?_); refine goesL_ (some 21) rfl rfl Tryd.func81 (by kernel_rfl) rfl #[.int .i64 a1, .agg #[.int .i64 ((rd_T65 l0 x14_1).f0.f0), .int .i64 ((rd_T65 l0 x14_1).f0.f1), .int .i64 ((rd_T65 l0 x14_1).f1)]] rfl (by (try simp only [List.map_toArray, List.map_cons, List.map_nil]); first | done | rfl | (simp only [List.length_drop, List.length_take]; rfl)) ?_; (with_reducible refine (cell_Lattice_Check.calls k1 a1 ((rd_T65 l0 x14_1).f0.f0) ((rd_T65 l0 x14_1).f0.f1) ((rd_T65 l0 x14_1).f1) none _ A8.out).mono ?_); rintro e w29 ⟨rfl, hb⟩; refine ⟨_, rfl, ?_⟩; have n0_ := Aside0.mk (blk_below (g := gb272) (o := .cells #[.int .i64 ((rd_T65 l0 x14_1).f0.f0), .int .i64 ((rd_T65 l0 x14_1).f0.f1), .int .i64 ((rd_T65 l0 x14_1).f1)] 65 (0, 0)) (by (with_reducible repeat (first | apply bN_ | apply bD_ | apply bA_)); refine blk_put (cs := #[.int .i64 ((rd_T65 l0 x14_1).f0.f0), .int .i64 ((rd_T65 l0 x14_1).f0.f1), .int .i64 0]) ?_ 2 _ rfl; (with_reducible repeat (first | apply bN_ | apply bD_ | apply bA_)); refine blk_put (cs := #[.int .i64 ((rd_T65 l0 x14_1).f0.f0), .int .i64 0, .int .i64 0]) ?_ 1 _ rfl; (with_reducible repeat (first | apply bN_ | apply bD_ | apply bA_)); refine blk_put (cs := #[.int .i64 0, .int .i64 0, .int .i64 0]) ?_ 0 _ rfl; (with_reducible repeat (first | apply bN_ | apply bD_ | apply bA_)); exact BK272.out) hb); have n1_ := Aside0.mk (below_step (by repeat (first | (with_reducible first | exact HB.out | apply ba_ | apply bn_ | apply bd_ | refine below_set ?_ GE272.out) | exact HB.out)) hb); clear BK272; clear HB; have BK272 := n0_; have HB := n1_; clear n0_ n1_; (try clear hb); (try clear hb2); (try clear hk); (try clear hi); (try simp only [errW_none, errW_some])))
         have n0_ := Aside0.mk (blk_drew BK272.out)
         have n1_ := Aside0.mk (below_drew1 HB.out)
         clear BK272
         clear HB
         have BK272 := n0_
         have HB := n1_
         clear n0_ n1_
         refine start_ (n := 12) (S := fun w' => True) (ds := []) #[false, false, false, false, false, false, false, false, false, false, false, false] (by kernel_rfl) rfl rfl trivial (fun hHeld => ?_); refine with_tabW set_Set_Check.tab9 set_Set_Check.bits9 (fun HT_ HW_ => ?_)
         generalize w29.drew = w30 at BK272 HB hHeld ⊢
         refine pure_ (i := 0) (N := some 27) (v := ?_) (a' := ?_) #[true, false, false, false, false, false, false, false, false, false, false, false] rfl rfl (any_of HT_.out (by kernel_rfl)) (fun _ _ _ h => h) (Or.inl ⟨by rfl, ?_⟩) ?_ ?_
         rotate_left
         ·
          intro w'
          go_simp
          with_reducible rfl
         rotate_left
         ·
          simp only [Act.put, List.setIfInBounds_toArray, List.set_cons_zero, List.set_cons_succ, i64_w, i32_w]
          rfl
         refine pure_ (i := 1) (N := some 28) (v := ?_) (a' := ?_) #[true, true, false, false, false, false, false, false, false, false, false, false] rfl rfl (any_of HT_.out (by kernel_rfl)) (fun _ _ _ h => h) (Or.inl ⟨by rfl, ?_⟩) ?_ ?_
         rotate_left
         ·
          intro w'
          go_simp
          with_reducible rfl
         rotate_left
         ·
          simp only [Act.put, List.setIfInBounds_toArray, List.set_cons_zero, List.set_cons_succ, i64_w, i32_w]
          rfl
         refine pure_ (i := 2) (N := some 29) (v := ?_) (a' := ?_) #[true, true, true, false, false, false, false, false, false, false, false, false] rfl rfl (any_of HT_.out (by kernel_rfl)) (fun _ _ _ h => h) (Or.inl ⟨by rfl, ?_⟩) ?_ ?_
         rotate_left
         ·
          intro w'
          go_simp
          with_reducible rfl
         rotate_left
         ·
          simp only [Act.put, List.setIfInBounds_toArray, List.set_cons_zero, List.set_cons_succ, i64_w, i32_w]
          rfl
         refine pure_ (i := 3) (N := some 30) (v := undef) (a' := ?_) #[true, true, true, true, false, false, false, false, false, false, false, false] rfl rfl (any_of HT_.out (by kernel_rfl)) (fun _ _ _ h => h) (Or.inr ⟨by rfl, rfl⟩) ?_ ?_
         rotate_left
         ·
          simp only [Act.put, List.setIfInBounds_toArray, List.set_cons_zero, List.set_cons_succ, i64_w, i32_w]
          rfl
         refine pure_ (i := 4) (N := some 31) (v := undef) (a' := ?_) #[true, true, true, true, true, false, false, false, false, false, false, false] rfl rfl (any_of HT_.out (by kernel_rfl)) (fun _ _ _ h => h) (Or.inr ⟨by rfl, rfl⟩) ?_ ?_
         rotate_left
         ·
          simp only [Act.put, List.setIfInBounds_toArray, List.set_cons_zero, List.set_cons_succ, i64_w, i32_w]
          rfl
         refine pure_ (i := 5) (N := some 32) (v := undef) (a' := ?_) #[true, true, true, true, true, true, false, false, false, false, false, false] rfl rfl (any_of HT_.out (by kernel_rfl)) (fun _ _ _ h => h) (Or.inr ⟨by rfl, rfl⟩) ?_ ?_
         rotate_left
         ·
          simp only [Act.put, List.setIfInBounds_toArray, List.set_cons_zero, List.set_cons_succ, i64_w, i32_w]
          rfl
         refine pure_ (i := 6) (N := some 33) (v := undef) (a' := ?_) #[true, true, true, true, true, true, true, false, false, false, false, false] rfl rfl (any_of HT_.out (by kernel_rfl)) (fun _ _ _ h => h) (Or.inr ⟨by rfl, rfl⟩) ?_ ?_
         rotate_left
         ·
          simp only [Act.put, List.setIfInBounds_toArray, List.set_cons_zero, List.set_cons_succ, i64_w, i32_w]
          rfl
         refine pure_ (i := 7) (N := some 34) (v := undef) (a' := ?_) #[true, true, true, true, true, true, true, true, false, false, false, false] rfl rfl (any_of HT_.out (by kernel_rfl)) (fun _ _ _ h => h) (Or.inr ⟨by rfl, rfl⟩) ?_ ?_
         rotate_left
         ·
          simp only [Act.put, List.setIfInBounds_toArray, List.set_cons_zero, List.set_cons_succ, i64_w, i32_w]
          rfl
         refine pure_ (i := 8) (N := some 35) (v := undef) (a' := ?_) #[true, true, true, true, true, true, true, true, true, false, false, false] rfl rfl (any_of HT_.out (by kernel_rfl)) (fun _ _ _ h => h) (Or.inr ⟨by rfl, rfl⟩) ?_ ?_
         rotate_left
         ·
          simp only [Act.put, List.setIfInBounds_toArray, List.set_cons_zero, List.set_cons_succ, i64_w, i32_w]
          rfl
         refine pure_ (i := 9) (N := some 36) (v := undef) (a' := ?_) #[true, true, true, true, true, true, true, true, true, true, false, false] rfl rfl (any_of HT_.out (by kernel_rfl)) (fun _ _ _ h => h) (Or.inr ⟨by rfl, rfl⟩) ?_ ?_
         rotate_left
         ·
          simp only [Act.put, List.setIfInBounds_toArray, List.set_cons_zero, List.set_cons_succ, i64_w, i32_w]
          rfl
         refine pure_ (i := 10) (N := some 37) (v := undef) (a' := ?_) #[true, true, true, true, true, true, true, true, true, true, true, false] rfl rfl (any_of HT_.out (by kernel_rfl)) (fun _ _ _ h => h) (Or.inr ⟨by rfl, rfl⟩) ?_ ?_
         rotate_left
         ·
          simp only [Act.put, List.setIfInBounds_toArray, List.set_cons_zero, List.set_cons_succ, i64_w, i32_w]
          rfl
         refine pure_ (i := 11) (N := some 38) (v := ?_) (a' := ?_) #[true, true, true, true, true, true, true, true, true, true, true, true] rfl rfl (any_of HT_.out (by kernel_rfl)) (fun _ _ _ h => h) (Or.inl ⟨by rfl, ?_⟩) ?_ ?_
         rotate_left
         ·
          intro w'
          go_simp
          with_reducible rfl
         rotate_left
         ·
          simp only [Act.put, List.setIfInBounds_toArray, List.set_cons_zero, List.set_cons_succ, i64_w, i32_w]
          rfl
         refine done_ (done_of HT_.out (by kernel_rfl)) ?_
         try go_wp2
         go_roundg k1
         case measure => have := HK1.out; omega
         case rel => exact ⟨(wrap64 (x14_1 + 1)), (by first | rfl | (simp; done) | (simp [*]; done)), H', ⟨by have := HK1.out; omega⟩, ⟨by repeat (first | (with_reducible first | exact HB.out | apply ba_ | apply bn_ | apply bd_ | refine below_set ?_ GE272.out) | exact HB.out)⟩⟩
       ·
        have H1 : ((XWrap.f (⟨#[99, 101, 108, 108]⟩ : ByteArray) x14_1 (some q274)).bind fun t278 => (some t278)) = some r := by rw [if_neg (show ¬ (some q274).isNone = true by simp)] at H; exact H
        clear H
        have H := H1
        clear H1
        try simp only [errW_none, errW_some]
        replace H := Option.bind_eq_some_iff.mp H
        obtain ⟨t278, A310, H⟩ := H
        replace H : (some t278) = some r := H
        have A31 := Aside0.mk A310
        clear A310
        obtain rfl := Option.some.inj H
        have p271 : 0 ≤ (x14_1 : Int) := of_decide_eq_true (by first | (with_reducible assumption) | assumption)
        have q271 : x14_1 < (l0.length : Int) := of_decide_eq_true (by first | (with_reducible assumption) | assumption)
        obtain ⟨ad271, e271, hx271_0, hx271_1, hx271_2⟩ := at_T65 HR0.out x14_1 p271 q271
        cases e271
        try replace hx271_0 := (HB.out.cell (World.block_lt_of_cell? w _ hx271_0)).trans hx271_0
        try replace hx271_1 := (HB.out.cell (World.block_lt_of_cell? w _ hx271_1)).trans hx271_1
        try replace hx271_2 := (HB.out.cell (World.block_lt_of_cell? w _ hx271_2)).trans hx271_2
        replace p271 := eq_true p271
        replace q271 := eq_true q271
        go_wp2_with (first | ((with_reducible refine gate_dst (N := 6) rfl ?_); refine box_event ?hg (N := 6) ?hd (cs := #[.int .i64 0, .int .i64 0, .int .i64 0]) (t := 65) ?hr ?_; (case hd => rfl); (case hg => rfl); (case hr => first | (go_simp; done) | (go_simp; rfl)); intro gb272 hg w32 hbox hb; have n0_ := Aside0.mk (below_step (by repeat (first | (with_reducible first | exact HB.out | apply ba_ | apply bn_ | apply bd_) | exact HB.out)) hb); have n1_ := Aside0.mk (hbox); have n2_ := Aside0.mk ((by rw [hg]; exact (below_size (by repeat (first | (with_reducible first | exact HB.out | apply ba_ | apply bn_ | apply bd_) | exact HB.out))) : w.heap.size ≤ gb272)); have n3_ := Aside0.mk ((by rw [hg]; exact (below_size (by repeat (first | (with_reducible first | exact HB.out | apply ba_ | apply bn_ | apply bd_) | exact HB.out))) : w.heap.size ≤ gb272)); clear HB; have HB := n0_; have BK272 := n1_; have GW272 := n2_; have GE272 := n3_; clear n0_ n1_ n2_ n3_; clear hb hbox hg; have hcz33_0 : w32.cell? ⟨gb272, 0, none⟩ = some (.int .i64 0) := (blk_cell BK272.out 0).trans rfl; have hcz33_1 : w32.cell? ⟨gb272, 1, none⟩ = some (.int .i64 0) := (blk_cell BK272.out 1).trans rfl; have hcz33_2 : w32.cell? ⟨gb272, 2, none⟩ = some (.int .i64 0) := (blk_cell BK272.out 2).trans rfl; have hfz33_0 := blk_frozen BK272.out 0; have hfz33_1 := blk_frozen BK272.out 1; have hfz33_2 := blk_frozen BK272.out 2) | ((with_reducible refine gate_callee (f := 81) rfl ?_); refine goesL_ (some 21) rfl rfl Tryd.func81 (by kernel_rfl) rfl #[.int .i64 a1, .agg #[.int .i64 ((rd_T65 l0 x14_1).f0.f0), .int .i64 ((rd_T65 l0 x14_1).f0.f1), .int .i64 ((rd_T65 l0 x14_1).f1)]] rfl (by (try simp only [List.map_toArray, List.map_cons, List.map_nil]); first | done | rfl | (simp only [List.length_drop, List.length_take]; rfl)) ?_; (with_reducible refine (cell_Lattice_Check.calls k1 a1 ((rd_T65 l0 x14_1).f0.f0) ((rd_T65 l0 x14_1).f0.f1) ((rd_T65 l0 x14_1).f1) (some q274) _ A8.out).mono ?_); rintro e w34 ⟨rfl, hb⟩; refine ⟨_, rfl, ?_⟩; have n0_ := Aside0.mk (blk_below (g := gb272) (o := .cells #[.int .i64 ((rd_T65 l0 x14_1).f0.f0), .int .i64 ((rd_T65 l0 x14_1).f0.f1), .int .i64 ((rd_T65 l0 x14_1).f1)] 65 (0, 0)) (by (with_reducible repeat (first | apply bN_ | apply bD_ | apply bA_)); refine blk_put (cs := #[.int .i64 ((rd_T65 l0 x14_1).f0.f0), .int .i64 ((rd_T65 l0 x14_1).f0.f1), .int .i64 0]) ?_ 2 _ rfl; (with_reducible repeat (first | apply bN_ | apply bD_ | apply bA_)); refine blk_put (cs := #[.int .i64 ((rd_T65 l0 x14_1).f0.f0), .int .i64 0, .int .i64 0]) ?_ 1 _ rfl; (with_reducible repeat (first | apply bN_ | apply bD_ | apply bA_)); refine blk_put (cs := #[.int .i64 0, .int .i64 0, .int .i64 0]) ?_ 0 _ rfl; (with_reducible repeat (first | apply bN_ | apply bD_ | apply bA_)); exact BK272.out) hb); have n1_ := Aside0.mk (below_step (by repeat (first | (with_reducible first | exact HB.out | apply ba_ | apply bn_ | apply bd_ | refine below_set ?_ GE272.out) | exact HB.out)) hb); clear BK272; clear HB; have BK272 := n0_; have HB := n1_; clear n0_ n1_; (try clear hb); (try clear hb2); (try clear hk); (try clear hi); (try simp only [errW_none, errW_some]); have CA31 := fun W => XWrap.calls (⟨#[99, 101, 108, 108]⟩ : ByteArray) x14_1 (some q274) t278 W A31.out; try simp only [errW_none, errW_some] at CA31) | (go_at_call 60; (with_reducible refine (CA31 _).mono ?_); rintro e w35 ⟨rfl, hb⟩; have n0_ := Aside0.mk (blk_below (g := gb272) (o := .cells #[.int .i64 ((rd_T65 l0 x14_1).f0.f0), .int .i64 ((rd_T65 l0 x14_1).f0.f1), .int .i64 ((rd_T65 l0 x14_1).f1)] 65 (0, 0)) (by (with_reducible repeat (first | apply bN_ | apply bD_ | apply bA_)); exact BK272.out) hb); have n1_ := Aside0.mk (below_step (by repeat (first | (with_reducible first | exact HB.out | apply ba_ | apply bn_ | apply bd_ | refine below_set ?_ GE272.out) | exact HB.out)) hb); clear BK272; clear HB; have BK272 := n0_; have HB := n1_; clear n0_ n1_; (try clear hb); (try clear hb2); (try clear hk); (try clear hi); (try simp only [errW_none, errW_some])))
        go_ret
        exact ⟨by first | rfl | (simp [errW_none, errW_some] <;> rfl) | (simp [*, errW_none, errW_some] <;> rfl), by repeat (first | (with_reducible first | exact HB.out | apply ba_ | apply bn_ | apply bd_ | refine below_set ?_ GE272.out) | exact HB.out)⟩
      ·
       rw [if_neg c7] at H
       exact absurd H (by simp)
     ·
      rw [if_neg c6] at H
      exact absurd H (by simp)
    ·
     rw [if_neg c5] at H
     have c5b0 : decide (x14_1 < (l0.length : Int)) = false := decide_eq_false c5
     clear c5
     obtain rfl := Option.some.inj H
     go_wp2
     go_ret
     exact ⟨by first | rfl | (simp [errW_none, errW_some] <;> rfl) | (simp [*, errW_none, errW_some] <;> rfl), by repeat (first | (with_reducible first | exact HB.out | apply ba_ | apply bn_ | apply bd_) | exact HB.out)⟩
 ·
  replace c4 := Bool.eq_false_iff.mpr c4
  subst c4
  have H1 : (some (some 11)) = some r := by rw [if_neg (show ¬ (false = true) by decide)] at H; exact H
  clear H
  have H := H1
  clear H1
  obtain rfl := Option.some.inj H
  go_enter Tryd.func43, Tryd.ntmps43
  go_wp2_with (first | ((with_reducible refine gate_callee (f := 80) rfl ?_); refine goesL_ (some 9) rfl rfl Tryd.func80 (by kernel_rfl) rfl #[.int .i64 a1] rfl (by (try simp only [List.map_toArray, List.map_cons, List.map_nil]); first | done | rfl | (simp only [List.length_drop, List.length_take]; rfl)) ?_; (with_reducible refine (cell_Lattice_Good.calls a1 false _ A3.out).mono ?_); rintro e w' ⟨rfl, ⟨nd, rfl⟩⟩; refine ⟨_, rfl, ?_⟩))
  go_ret
  exact ⟨by first | rfl | (simp [errW_none, errW_some] <;> rfl) | (simp [*, errW_none, errW_some] <;> rfl), by repeat (first | (with_reducible first | exact HB.out | apply ba_ | apply bn_ | apply bd_) | exact HB.out)⟩
end Go.Proofs.YtaeenefdbahfoaaDoor.H
namespace Go.Proofs.YtaeenefdbahfoaaDoor
set_option linter.unusedSimpArgs false
set_option linter.unusedVariables false
open Go.RowKit Go.Proofs.YtaeenefdbahfoaaDoorW.PrintWords Go.Proofs.YtaeenefdbahfoaaDoorW.PrintLast Go.Proofs.YtaeenefdbahfoaaDoorW.PrintMore
open H
open Go.Shelf Go.RowKit Go.Lib Go.Sort
set_option maxRecDepth 100000 in
set_option maxHeartbeats 2000000 in
theorem beside_refused (l a b h c : Int) (w : World) (hc : checkR l a b h = some c) :
    Calls Tryd.prog 89 #[.int .i64 l, .agg #[.int .i64 a, .int .i64 b, .int .i64 h]] w fun e w' => e = .returned (.tuple #[.slice none 0 0, errW (some c)]) ∧ Below w.heap.size w w' := by
  have hck := fun W => check_any l a b h W
  simp only [hc, errW_some] at hck ⊢
  go_enter Tryd.func89, Tryd.ntmps89
  go_wp2_with fail
  obtain ⟨w1, hw1, hcc, hsz, hB1⟩ := one_new w #[.int .i64 a, .int .i64 b, .int .i64 h] 65
  rw [← hw1]
  clear hw1
  have d0 : w1.cell? ⟨w.heap.size, 0, none⟩ = some (.int .i64 a) := hcc 0 _ rfl
  have d1 : w1.cell? ⟨w.heap.size, 1, none⟩ = some (.int .i64 b) := hcc 1 _ rfl
  have d2 : w1.cell? ⟨w.heap.size, 2, none⟩ = some (.int .i64 h) := hcc 2 _ rfl
  have HB1 := Aside0.mk hB1
  clear hcc hB1
  go_wp2_with (go_at_call 81; refine (hck _).mono ?_; rintro e w2 ⟨rfl, hb2⟩; have HB2 := Aside0.mk (HB1.out.trans (hb2.mono HB1.out.size)); clear hb2)
  go_ret2
  exact ⟨rfl, HB2.out⟩
/-- those beside a cell, or the code -/
def XBeside.f (l a b h : Int) : Option (List S65 × Option Int) :=
  some (match checkR l a b h with
    | some c => ([], some c)
    | none => if ((offs l h).map (sh a b)).all (fun x => decide (goodP x.f0.f0 x.f0.f1)) = true then ((offs l h).map (sh a b), none) else ([], some 6))
theorem XBeside.calls (a0 : Int) (a1_0 : Int) (a1_1 : Int) (a1_2 : Int) (r1 : List S65) (r2 : Option Int) (w : World) (hGSix : Six w) (h : XBeside.f a0 a1_0 a1_1 a1_2 = some (r1, r2)) :
    Calls Tryd.prog 89 #[.int .i64 a0, .agg #[.int .i64 a1_0, .int .i64 a1_1, .int .i64 a1_2]] w fun e w' => ∃ v0_ : Value, e = .returned (.tuple #[v0_, errW r2]) ∧ Kd.R k65 65 w' w.heap.size (fun _ => True) v0_ r1 ∧ Below w.heap.size w w' := by
  have h' := Option.some.inj h
  clear h
  cases hc : checkR a0 a1_0 a1_1 a1_2 with
  | some c =>
    rw [hc] at h'
    obtain ⟨rfl, rfl⟩ := Prod.mk.inj h'
    exact (beside_refused _ _ _ _ c w hc).mono fun e w' ⟨he, hb⟩ => ⟨_, he, Kd.R_nil _ _ _ _ _, hb⟩
  | none =>
    rw [hc] at h'
    obtain ⟨q1, q2, q3, q4, q5⟩ := checkR_ok hc
    refine (beside_any a0 a1_0 a1_1 a1_2 w hGSix q1 q2 q4 q5 q3).mono ?_
    rintro e w' ⟨hv, hb⟩
    by_cases hall : ((offs a0 a1_2).map (sh a1_0 a1_1)).all (fun x => decide (goodP x.f0.f0 x.f0.f1)) = true
    · simp only [hall, ↓reduceIte] at h'
      obtain ⟨rfl, rfl⟩ := Prod.mk.inj h'
      rcases hv with ⟨_, v, rfl, hR⟩ | ⟨hbad, _⟩
      · exact ⟨v, rfl, hR, hb⟩
      · exact absurd (fun x hx => of_decide_eq_true (List.all_eq_true.1 hall x hx)) hbad
    · simp only [hall] at h'
      obtain ⟨rfl, rfl⟩ := Prod.mk.inj h'
      rcases hv with ⟨hgood, _⟩ | ⟨_, rfl⟩
      · exact absurd (List.all_eq_true.2 fun x hx => decide_eq_true (hgood x hx)) hall
      · exact ⟨_, rfl, Kd.R_nil _ _ _ _ _, hb⟩
end Go.Proofs.YtaeenefdbahfoaaDoor
namespace Go.Proofs.YtaeenefdbahfoaaDoor
set_option linter.unusedSimpArgs false
set_option linter.unusedVariables false
open Go.RowKit Go.Proofs.YtaeenefdbahfoaaDoorW.PrintWords Go.Proofs.YtaeenefdbahfoaaDoorW.PrintLast Go.Proofs.YtaeenefdbahfoaaDoorW.PrintMore
def XSix.f : Option (Int × Int × Int × Int × Int × Int × Int × Int × Int × Int × Int × Int) := some (1, 0, 0, 1, -1, 1, -1, 0, 0, -1, 1, -1)
theorem XSix.calls (r1 r2 r3 r4 r5 r6 r7 r8 r9 r10 r11 r12 : Int) (w : World) (hGSix : Six w) (h : XSix.f = some (r1, r2, r3, r4, r5, r6, r7, r8, r9, r10, r11, r12)) :
    Calls Tryd.prog 32 #[] w fun e w' => e = .returned (.agg #[.int .i64 r1, .int .i64 r2, .int .i64 r3, .int .i64 r4, .int .i64 r5, .int .i64 r6, .int .i64 r7, .int .i64 r8, .int .i64 r9, .int .i64 r10, .int .i64 r11, .int .i64 r12]) ∧ Below w.heap.size w w' := by
  simp only [XSix.f, Option.some.injEq, Prod.mk.injEq] at h
  obtain ⟨rfl, rfl, rfl, rfl, rfl, rfl, rfl, rfl, rfl, rfl, rfl, rfl⟩ := h
  exact six_any w hGSix
end Go.Proofs.YtaeenefdbahfoaaDoor
namespace Go.Proofs.YtaeenefdbahfoaaDoor
open Go.RowKit Go.Proofs.YtaeenefdbahfoaaDoorW.PrintWords Go.Proofs.YtaeenefdbahfoaaDoorW.PrintLast Go.Proofs.YtaeenefdbahfoaaDoorW.PrintMore
open H
open Go.RowKit
set_option linter.unusedSimpArgs false
theorem offs_le (l h : Int) : (offs l h).length ≤ 12 := by
  unfold offs
  split
  · decide
  · split
    · split <;> decide
    · split <;> decide
theorem besL_le (l : Int) (c : CL) : (besL l c).length ≤ 12 := by unfold besL; rw [List.length_map]; exact offs_le _ _
abbrev S3c (g : Nat) (x : CL) (W : World) : Prop := W.cell? ⟨g, 0, none⟩ = some (.int .i64 x.f0.f0) ∧ W.cell? ⟨g, 1, none⟩ = some (.int .i64 x.f0.f1) ∧ W.cell? ⟨g, 2, none⟩ = some (.int .i64 x.f1)
abbrev CB (x : CL) : Obj := .cells #[.int .i64 x.f0.f0, .int .i64 x.f0.f1, .int .i64 x.f1] 65 (0, 0)
theorem S3c.of {W : World} {g : Nat} {x : CL} (h : W.heap[g]? = some (CB x)) : S3c g x W := ⟨blk_cell h 0, blk_cell h 1, blk_cell h 2⟩
set_option maxRecDepth 100000 in
set_option maxHeartbeats 8000000 in
theorem flat_around_any (l : Int) (s : List CL) (A0 : Option Addr) (c0 : Nat) (w : World) (hr0 : Kd.C k65 w A0 s.length s) (hn : s.length < 1099511627776)
    (hok : ∀ c ∈ s, goodP c.f0.f0 c.f0.f1 ∧ XBeside.f l c.f0.f0 c.f0.f1 c.f1 = some (besL l c, none) ∧ ∀ d ∈ besL l c, inR d) (hG : Six w) :
    Calls Tryd.prog 61 #[.int .i64 l, .slice A0 s.length c0] w fun e w' => ∃ gm, e = .returned (.tuple #[.map (some gm), .nilIface]) ∧ MapAt Tryd.prog 65 w' gm ((arL l s).map encC) ∧ w.heap.size ≤ gm ∧ Below w.heap.size w w' := by
  have hsix := fun W hW => XSix.calls 1 0 0 1 (-1) 1 (-1) 0 0 (-1) 1 (-1) W hW rfl
  have HSIX := Aside0.mk hsix
  have HR := Aside0.mk hr0
  have HG := Aside0.mk hG
  have HOK := Aside0.mk hok
  clear hsix hr0 hG hok
  have hmm := @run_makeMap Tryd.prog
  go_enter Tryd.func61, Tryd.ntmps61
  go_wp2_with fail
  clear hmm
  obtain ⟨w1, hw1⟩ : ∃ W, W = w.alloc (.map #[] 0) := ⟨_, rfl⟩
  have hM1 : MapAt Tryd.prog 65 w1 w.heap.size [] := by rw [hw1]; exact MapAt_made _ _ _
  have hB1 : Below w.heap.size w w1 := by rw [hw1]; exact below_alloc (Below.refl _ _) _
  rw [← hw1]
  obtain ⟨gm, hgm⟩ : ∃ g, g = w.heap.size := ⟨_, rfl⟩
  rw [← hgm] at hM1 ⊢
  have hgz : w.heap.size ≤ gm := by omega
  clear hw1 hgm
  have HB1 := Aside0.mk hB1
  clear hB1
  go_loopw [19] (fun iv wr => ∃ i : Nat, i ≤ s.length ∧ iv = .int .i64 i ∧ MapAt Tryd.prog 65 wr gm ((arL l (s.take i)).map encC) ∧ Below w.heap.size w wr) (fun iv _ => s.length - (intOf iv).toNat)
  case atStart => exact ⟨0, by omega, rfl, hM1, HB1.out⟩
  case round =>
    obtain ⟨i, hi, rfl, hM, hB⟩ := hrel
    have M := Aside0.mk hM
    have HB := Aside0.mk hB
    have hBz := hB.size
    have lm := hM.lt
    have R2 := Aside0.mk (Kd.C_below HR.out hB)
    have G2 := Aside0.mk (HG.out.below hB)
    clear hM hB hM1 HB1
    by_cases hlt : i < s.length
    · obtain ⟨ad, hAd, a0, a1, a2⟩ := at_T65 R2.out i (by omega) (by omega)
      rw [Int.toNat_natCast] at a0 a1 a2
      have hx : rd_T65 s i = s[i] := by simp [rd_T65, hlt]
      obtain ⟨hgd, hbs, hin⟩ := HOK.out s[i] (List.getElem_mem hlt)
      have hnext := arL_take l s i hlt
      have hbd0 : (l = 1 → Bd (arL l (s.take i)) 63) ∧ (¬ l = 1 → Bd (arL l (s.take i)) (12 * i)) := by
        refine ⟨fun e => ?_, fun e => ?_⟩
        · subst e; exact ar_bd_hex _ [] (Bd_nil _)
        · have := ar_bd_tri l e (s.take i) (fun c _ => besL_le l c) [] 0 (Bd_nil _) (by omega)
          refine this.mono ?_
          rw [List.length_take]; omega
      rw [hx] at a0 a1 a2
      obtain ⟨c, hc⟩ : ∃ c, c = s[i] := ⟨_, rfl⟩
      rw [← hc] at a0 a1 a2 hgd hbs hin hnext
      obtain ⟨T, hT⟩ : ∃ T, T = arL l (s.take i) := ⟨_, rfl⟩
      rw [← hT] at hnext hbd0 M
      have HNEXT := Aside0.mk hnext
      have HBD := Aside0.mk hbd0
      have HIN := Aside0.mk hin
      have HGD := Aside0.mk hgd
      have hbl := besL_le l c
      have cB := fun W hW => XBeside.calls l c.f0.f0 c.f0.f1 c.f1 _ _ W hW hbs
      simp only [errW_none] at cB
      have CBS := Aside0.mk cB
      clear hx hc hT hnext hbd0 hin hgd hbs cB
      rw [hAd] at R2
      have R3 := R2
      subst hAd
      go_wp2_with fail
      have hBa : Below wr.heap.size wr (wr.alloc (CB c)) := below_alloc (Below.refl _ _) _
      refine (CBS.out _ (G2.out.below hBa)).mono ?_
      rintro e w6 ⟨v, rfl, hR, hb6⟩
      have hR2 : Kd.R k65 65 w6 w.heap.size (fun k => k ≠ gm) v (besL l c) := Kd.R_mono (Kd.R_lower (Kd.R_bound hR) (by rw [World.size_alloc]; omega)) (fun k hk => by have := hk.2.1; rw [World.size_alloc] at this; omega)
      have HR6 := Aside0.mk hR2
      obtain ⟨A, cA, rfl, hlA, hC⟩ := Kd.R_reads hR
      have k8 : w6.heap[wr.heap.size]? = some (CB c) := blk_below (blk_new wr (CB c)) hb6
      obtain ⟨g8, hg8⟩ : ∃ g, g = wr.heap.size := ⟨_, rfl⟩
      rw [← hg8] at k8 ⊢
      have hB6 : Below wr.heap.size wr w6 := hBa.trans (hb6.mono (by simp))
      have hz6 := hB6.size
      have M6 := Aside0.mk (M.out.below hB6)
      have HB6 := Aside0.mk (HB.out.trans (hB6.mono (by omega)))
      have K8 := Aside0.mk k8
      have hne8 : g8 ≠ gm := by omega
      have hlA' := Aside0.mk hlA
      clear a0 a1 a2 hR hR2 hC hb6 hBa hB6 k8 hg8 M HB R2 R3 G2 hlA
      by_cases hl : l = 1
      · subst hl
        have hbd := HBD.out.1 rfl
        have HBD1 := Aside0.mk hbd
        clear hbd HBD HR6
        go_wp2_with fail
        refine (HSIX.out _ (HG.out.below HB6.out)).mono ?_
        rintro e w7 ⟨rfl, hb7⟩
        have hz7 := hb7.size
        have M7 := Aside0.mk (M6.out.below hb7)
        have HB7 := Aside0.mk (HB6.out.trans (hb7.mono (by omega)))
        have K87 := Aside0.mk (blk_below K8.out hb7)
        have hz67 : wr.heap.size ≤ w7.heap.size := by omega
        clear hb7 M6 HB6 K8
        go_wp2_with fail
        go_loopw [51] (fun kv ws => ∃ k : Nat, k ≤ 6 ∧ kv = .int .i64 k ∧ MapAt Tryd.prog 65 ws gm ((((List.range 6).take k).foldl (hexStep c) T).map encC) ∧ ws.heap[g8]? = some (CB c) ∧ Below w.heap.size w ws) (fun kv _ => 6 - (intOf kv).toNat)
        case atStart => exact ⟨0, by omega, rfl, M7.out, K87.out, HB7.out⟩
        case round =>
          obtain ⟨k, hk, rfl, hM, k8, hB⟩ := hrel
          have M := Aside0.mk hM
          have HB := Aside0.mk hB
          have K8 := Aside0.mk k8
          have hBz := hB.size
          have lm := hM.lt
          have l8 := blk_lt k8
          clear hM hB k8 M7 HB7 K87
          by_cases hk6 : k < 6
          · have hix := sx_index k hk6
            obtain ⟨s1, s2, s3, s4⟩ := sx_bd k
            obtain ⟨g1, g2, g3, g4⟩ := HGD.out
            have hqd : hexQ c k = mk (c.f0.f0 + sxA k) (c.f0.f1 + sxB k) 0 := rfl
            have hinq : inR (hexQ c k) := by
              refine ⟨⟨?_, ?_⟩, ⟨?_, ?_⟩, ⟨?_, ?_⟩⟩ <;> simp only [hexQ, mk] <;> omega
            have hwa : IntKind.i64.wrap (c.f0.f0 + sxA k) = c.f0.f0 + sxA k := by rw [IntKind.wrap_i64]; omega
            have hwb : IntKind.i64.wrap (c.f0.f1 + sxB k) = c.f0.f1 + sxB k := by rw [IntKind.wrap_i64]; omega
            have hw3 : IntKind.i64.wrap ((k : Int) + 3) = (k : Int) + 3 := by rw [IntKind.wrap_i64]; omega
            have hr6 : Int.tmod ((k : Int) + 3) 6 = (((k + 3) % 6 : Nat) : Int) := by rw [Int.tmod_eq_emod_of_nonneg (by omega)]; omega
            have hj6 : (k + 3) % 6 < 6 := Nat.mod_lt _ (by omega)
            have hnx := range_take6 k hk6 (hexStep c) T
            have hqx : hexStep c (((List.range 6).take k).foldl (hexStep c) T) k = putC (((List.range 6).take k).foldl (hexStep c) T) (hexQ c k) (Go.bits .or .i64 (cntC (((List.range 6).take k).foldl (hexStep c) T) (hexQ c k)) (2 ^ ((k + 3) % 6))) := rfl
            rw [hqx] at hnx
            have HNX := Aside0.mk hnx
            clear hqx hnx s1 s2 s3 s4 g1 g2 g3 g4
            obtain ⟨j, hj⟩ : ∃ j, j = (k + 3) % 6 := ⟨_, rfl⟩
            rw [← hj] at hr6 hj6 HNX
            have hwp : IntKind.i64.wrap (2 ^ j) = 2 ^ j := by
              have hkk : j = 0 ∨ j = 1 ∨ j = 2 ∨ j = 3 ∨ j = 4 ∨ j = 5 := by omega
              rcases hkk with rfl | rfl | rfl | rfl | rfl | rfl <;> decide
            obtain ⟨X, hX⟩ : ∃ X, X = ((List.range 6).take k).foldl (hexStep c) T := ⟨_, rfl⟩
            rw [← hX] at M HNX
            have k0 := blk_cell K8.out 0
            have k1 := blk_cell K8.out 1
            simp only [List.getElem?_toArray, List.getElem?_cons_zero, List.getElem?_cons_succ] at k0 k1
            clear hX hj
            go_upto_region 18 with (fail)
            obtain ⟨q, hq⟩ : ∃ q, q = hexQ c k := ⟨_, rfl⟩
            obtain ⟨w8, hw8⟩ : ∃ W, W = (wr.alloc (.cells #[.int .i64 (sxA k), .int .i64 (sxB k)] 63)).alloc (.cells #[.int .i64 (c.f0.f0 + sxA k), .int .i64 (c.f0.f1 + sxB k), .int .i64 0] 65) := ⟨_, rfl⟩
            have k15 : w8.heap[wr.heap.size + 1]? = some (CB q) := by
              have := blk_new (wr.alloc (.cells #[.int .i64 (sxA k), .int .i64 (sxB k)] 63)) (CB q)
              rw [World.size_alloc] at this
              rw [hw8, hq]
              rw [hq] at this
              exact this
            have hB8 : Below wr.heap.size wr w8 := by rw [hw8]; exact below_alloc2 (below_alloc (Below.refl _ _) _) (by simp) _
            rw [← hw8]
            rw [← hq] at hinq HNX
            have hz8 := hB8.size
            have M8 := Aside0.mk (M.out.below hB8)
            have HB8 := Aside0.mk (HB.out.trans (hB8.mono (by omega)))
            have K88 := Aside0.mk (blk_below K8.out hB8)
            obtain ⟨g15, hg15⟩ : ∃ g, g = wr.heap.size + 1 := ⟨_, rfl⟩
            rw [← hg15] at k15 ⊢
            have hne15 : g15 ≠ gm := by omega
            have K15 := Aside0.mk k15
            have hwz8 : gm ≤ w8.heap.size := by omega
            clear hw8 hg15 hB8 k15 hq hqd k0 k1 M HB K8 hwa hwb
            obtain ⟨Y, hY⟩ : ∃ Y, Y = Go.bits .or .i64 (cntC X q) (2 ^ j) := ⟨_, rfl⟩
            obtain ⟨hlk, w9, st, hen, htu, hlk9, w10, hes, htu9, hm10⟩ := incr_C (w := w8.drew) M8.out q hinq Y
            rw [hY] at hes
            rw [← hY] at HNX
            have hS8 : S3c g15 q w8.drew := S3c.of K15.out
            have h15 : w9.heap[g15]? = some (CB q) := (mapTurned_heap htu hne15).trans K15.out
            have h15' : w10.heap[g15]? = some (CB q) := (mapTurned_heap htu9 hne15).trans h15
            have hS9 : S3c g15 q w9 := S3c.of h15
            have hS10 : S3c g15 q w10 := S3c.of h15'
            have hb9 : Below w.heap.size w w9 := pw_below_grown (below_drew HB8.out) _ HB8.out.size htu.grown (fun k hk => by cases hk; exact hgz)
            have hb10 : Below w.heap.size w w10 := pw_below_grown hb9 _ hb9.size htu9.grown (fun k hk => by cases hk; exact hgz)
            have h8 : w10.heap[g8]? = some (CB c) := (mapTurned_heap htu9 hne8).trans ((mapTurned_heap htu hne8).trans K88.out)
            have FF := Aside0.mk (And.intro hm10 (And.intro h8 hb10))
            clear hm10 h8 hb9 hb10 h15 h15' htu htu9 hY
            go_region_held3 (fun W => W.cell? ⟨g15, 0, none⟩ = some (.int .i64 q.f0.f0) ∧ W.cell? ⟨g15, 1, none⟩ = some (.int .i64 q.f0.f1) ∧ W.cell? ⟨g15, 2, none⟩ = some (.int .i64 q.f1))
              (assumption) (fail)
            all_goals (
              clear hlk hen hlk9 hes hS8 hS9 hS10
              go_wp2
              go_roundw
              case rel => exact ⟨k + 1, by omega, by go_num, by rw [HNX.out]; exact FF.out.1, FF.out.2.1, FF.out.2.2⟩
              case measure => simp [intOf]; omega)
          · obtain rfl : k = 6 := by omega
            have hfin : arStep 1 T c = ((List.range 6).take 6).foldl (hexStep c) T := rfl
            have HF := Aside0.mk hfin
            clear hfin
            go_wp2
            go_roundw
            case rel => exact ⟨i + 1, by omega, by go_num, by rw [HNEXT.out, HF.out]; exact M.out, HB.out⟩
            case measure => simp [intOf]; omega
      · have hbd := HBD.out.2 hl
        have hlb : (l != 1) = true := by simpa using hl
        have HBD1 := Aside0.mk hbd
        clear hbd HBD
        go_wp2_with fail
        go_loopw [39] (fun kv ws => ∃ k : Nat, k ≤ (besL l c).length ∧ kv = .int .i64 k ∧ MapAt Tryd.prog 65 ws gm ((((besL l c).take k).foldl triStep T).map encC) ∧ Kd.R k65 65 ws w.heap.size (fun k => k ≠ gm) (.slice A (besL l c).length cA) (besL l c) ∧ Below w.heap.size w ws) (fun kv _ => (besL l c).length - (intOf kv).toNat)
        case atStart => exact ⟨0, by omega, rfl, M6.out, HR6.out, HB6.out⟩
        case round =>
          obtain ⟨k, hk, rfl, hM, hRk, hB⟩ := hrel
          have M := Aside0.mk hM
          have HB := Aside0.mk hB
          have RK := Aside0.mk hRk
          have hBz := hB.size
          have lm := hM.lt
          have CK := Aside0.mk (Kd.R_reads' hRk).2.2
          clear hM hB hRk M6 HR6 HB6 K8
          by_cases hk6 : k < (besL l c).length
          · obtain ⟨ad2, hAd2, a0, a1, a2⟩ := at_T65 CK.out k (by omega) (by omega)
            rw [Int.toNat_natCast] at a0 a1 a2
            have hx : rd_T65 (besL l c) k = (besL l c)[k] := by simp [rd_T65, hk6]
            have hinq := HIN.out (besL l c)[k] (List.getElem_mem hk6)
            have hnx := foldl_take triStep T (besL l c) k hk6
            have hbk := tri_bd ((besL l c).take k) T _ HBD1.out (by omega)
            rw [List.length_take, Nat.min_eq_left (Nat.le_of_lt hk6)] at hbk
            rw [hx] at a0 a1 a2
            obtain ⟨q, hq⟩ : ∃ q, q = (besL l c)[k] := ⟨_, rfl⟩
            rw [← hq] at a0 a1 a2 hinq hnx
            obtain ⟨X, hX⟩ : ∃ X, X = ((besL l c).take k).foldl triStep T := ⟨_, rfl⟩
            rw [← hX] at M hnx hbk
            have hcb := hbk.cnt (by omega) q
            have hwi : IntKind.i64.wrap (cntC X q + 1) = cntC X q + 1 := by rw [IntKind.wrap_i64]; omega
            have HNX := Aside0.mk (show ((besL l c).take (k + 1)).foldl triStep T = putC X q (cntC X q + 1) from hnx)
            clear hx hnx hbk hq hX hcb
            rw [hAd2] at RK
            subst hAd2
            go_upto_region 12 with (fail)
            obtain ⟨w8, hw8⟩ : ∃ W, W = wr.alloc (CB q) := ⟨_, rfl⟩
            have k15 : w8.heap[wr.heap.size]? = some (CB q) := by rw [hw8]; exact blk_new _ _
            have hB8 : Below wr.heap.size wr w8 := by rw [hw8]; exact below_alloc (Below.refl _ _) _
            rw [← hw8]
            have hz8 := hB8.size
            have M8 := Aside0.mk (M.out.below hB8)
            have HB8 := Aside0.mk (HB.out.trans (hB8.mono (by omega)))
            have RK8 := Aside0.mk (Kd.R_below RK.out hB8)
            obtain ⟨g15, hg15⟩ : ∃ g, g = wr.heap.size := ⟨_, rfl⟩
            rw [← hg15] at k15 ⊢
            have hne15 : g15 ≠ gm := by omega
            have K15 := Aside0.mk k15
            have hwz8 : gm ≤ w8.heap.size := by omega
            clear hw8 hg15 hB8 k15 M HB RK CK a0 a1 a2
            obtain ⟨hlk, w9, st, hen, htu, hlk9, w10, hes, htu9, hm10⟩ := incr_C (w := w8.drew) M8.out q hinq (cntC X q + 1)
            have hS8 : S3c g15 q w8.drew := S3c.of K15.out
            have h15 : w9.heap[g15]? = some (CB q) := (mapTurned_heap htu hne15).trans K15.out
            have h15' : w10.heap[g15]? = some (CB q) := (mapTurned_heap htu9 hne15).trans h15
            have hS9 : S3c g15 q w9 := S3c.of h15
            have hS10 : S3c g15 q w10 := S3c.of h15'
            have hb9 : Below w.heap.size w w9 := pw_below_grown (below_drew HB8.out) _ HB8.out.size htu.grown (fun k hk => by cases hk; exact hgz)
            have hb10 : Below w.heap.size w w10 := pw_below_grown hb9 _ hb9.size htu9.grown (fun k hk => by cases hk; exact hgz)
            have r10 := Kd.R_grown (Kd.R_grown (Kd.R_drew RK8.out) htu.grown (fun k hk e => hk (by cases e; rfl))) htu9.grown (fun k hk e => hk (by cases e; rfl))
            have FF := Aside0.mk (And.intro hm10 (And.intro r10 hb10))
            clear hm10 r10 hb9 hb10 h15 h15' htu htu9
            go_region_held3 (fun W => W.cell? ⟨g15, 0, none⟩ = some (.int .i64 q.f0.f0) ∧ W.cell? ⟨g15, 1, none⟩ = some (.int .i64 q.f0.f1) ∧ W.cell? ⟨g15, 2, none⟩ = some (.int .i64 q.f1))
              (assumption) (fail)
            all_goals (
              clear hlk hen hlk9 hes hS8 hS9 hS10
              go_wp2
              go_roundw
              case rel => exact ⟨k + 1, by omega, by go_num, by rw [HNX.out]; exact FF.out.1, FF.out.2.1, FF.out.2.2⟩
              case measure => simp [intOf]; omega)
          · obtain rfl : k = (besL l c).length := by omega
            have hfin : arStep l T c = ((besL l c).take (besL l c).length).foldl triStep T := by rw [List.take_length]; unfold arStep; rw [if_neg hl]
            have HF := Aside0.mk hfin
            clear hfin
            go_wp2
            go_roundw
            case rel => exact ⟨i + 1, by omega, by go_num, by rw [HNEXT.out, HF.out]; exact M.out, HB.out⟩
            case measure => simp [intOf]; omega
    · obtain rfl : i = s.length := by omega
      have hfin : arL l (s.take s.length) = arL l s := by rw [List.take_length]
      have HF := Aside0.mk hfin
      clear hfin
      go_wp2
      go_ret2
      exact ⟨gm, rfl, by rw [← HF.out]; exact M.out, hgz, HB.out⟩
end Go.Proofs.YtaeenefdbahfoaaDoor
