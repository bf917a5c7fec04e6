/- SetBack: moved and turned, and back. Plain. -/
import Derived.Test.YtpekdgdogmaohaaPSet
import Derived.Test.YtpekdgdogmaohaaRot
import Derived.Test.YtpekdgdogmaohaaHhoneycomblaw04SetBack
namespace Go.Proofs.Ytpekdgdogmaohaa
open Go.RowKit Go.Proofs.YtpekdgdogmaohaaW.PrintWords Go.Proofs.YtpekdgdogmaohaaW.PrintLast Go.Proofs.YtpekdgdogmaohaaW.PrintMore
open H
open Go.RowKit

/-- a cell of coordinates of at most B, that fits lattice t -/
def cellBd (t B : Int) (x : CL) : Prop := halfOk t x ∧ (-B ≤ x.f0.f0 ∧ x.f0.f0 ≤ B) ∧ (-B ≤ x.f0.f1 ∧ x.f0.f1 ≤ B)

theorem someC_bd (t : Int) (r : RC) : cellBd t 99 (someC t r) := by
  have a0 := Int.tmod_lt_of_pos r.f0 (show (0 : Int) < 100 by omega)
  have a1 := Int.lt_tmod_of_pos r.f0 (show (0 : Int) < 100 by omega)
  have b0 := Int.tmod_lt_of_pos r.f1 (show (0 : Int) < 100 by omega)
  have b1 := Int.lt_tmod_of_pos r.f1 (show (0 : Int) < 100 by omega)
  unfold cellBd halfOk someC
  simp only [mk]
  refine ⟨⟨?_, ?_⟩, ⟨by omega, by omega⟩, ⟨by omega, by omega⟩⟩
  · by_cases ht : t = 1
    · rw [if_pos ht]; exact .inl rfl
    · rw [if_neg ht]; omega
  · intro ht
    rw [if_pos ht]

theorem sh_bd {t B a b : Int} {x : CL} (A : Int) (h : cellBd t B x) (ha : -A ≤ a ∧ a ≤ A) (hb : -A ≤ b ∧ b ≤ A) : cellBd t (B + A) (sh a b x) := by
  unfold cellBd halfOk at *
  obtain ⟨h1, h2, h3⟩ := h
  refine ⟨h1, ?_, ?_⟩ <;> (simp only [sh]; omega)
theorem on_bd {t B : Int} {x : CL} (o : Int) (h0 : 0 ≤ o) (h1 : o < 12) (h : cellBd t B x) : cellBd t (2 * B + 2) (onC t o x) := by
  obtain ⟨hh, ⟨h2, h3⟩, h4, h5⟩ := h
  have := onC_bd t o x B h0 h1 hh h2 h3 h4 h5
  exact ⟨onC_half t o x h0 h1 hh, this.1, this.2⟩
theorem bd_good {t B : Int} {x : CL} (hB : B ≤ 1099511627776) (h : cellBd t B x) : goodP x.f0.f0 x.f0.f1 := by
  obtain ⟨_, ⟨h2, h3⟩, h4, h5⟩ := h
  unfold goodP; omega
theorem bd_check {t B : Int} {x : CL} (h1 : 1 ≤ t) (h3 : t ≤ 3) (hB : B ≤ 1099511627776) (h : cellBd t B x) : checkR t x.f0.f0 x.f0.f1 x.f1 = none :=
  checkR_good h1 h3 h.1 (bd_good hB h)

/-- a map that has a way back keeps a list of pairwise different cells so; the lists of both are of one length -/
theorem ofL_map_length (l : List CL) (f g : CL → CL) (hs : Srt l) (hb : ∀ x ∈ l, g (f x) = x) : (ofL (l.map f)).length = l.length := by
  have hnd : l.Nodup := hs.imp (fun h e => by subst e; exact ltC_irrefl _ h)
  have hmn : (l.map f).Nodup := by
    rw [List.nodup_iff_pairwise_ne, List.pairwise_map]
    refine List.Pairwise.imp_of_mem (R := fun a b => a ≠ b) ?_ hnd
    intro a b ha hb' hne e
    exact hne (by rw [← hb a ha, ← hb b hb', e])
  have hso : (ofL (l.map f)).Nodup := (ofL_srt (l.map f)).imp (fun h e => by subst e; exact ltC_irrefl _ h)
  have hp : (ofL (l.map f)).Perm (l.map f) := (List.perm_ext_iff_of_nodup hso hmn).2 (fun a => ofL_mem _ a)
  rw [hp.length_eq, List.length_map]
/-- there and back: the list again -/
theorem ofL_back (l : List CL) (f g : CL → CL) (hs : Srt l) (hb : ∀ x ∈ l, g (f x) = x) : ofL ((ofL (l.map f)).map g) = l := by
  refine srt_ext (ofL_srt _) hs (fun x => ?_)
  rw [ofL_mem, List.mem_map]
  constructor
  · rintro ⟨y, hy, rfl⟩
    rw [ofL_mem, List.mem_map] at hy
    obtain ⟨z, hz, rfl⟩ := hy
    rw [hb z hz]; exact hz
  · intro hx
    exact ⟨f x, by rw [ofL_mem]; exact List.mem_map.2 ⟨x, hx, rfl⟩, hb x hx⟩

theorem onR_bd {t B : Int} {x : CL} (o : Int) (h1 : 1 ≤ t) (h3 : t ≤ 3) (h0 : 0 ≤ o) (h12 : o < 12) (hB : 2 * B + 2 ≤ 1099511627776) (hB0 : 0 ≤ B) (h : cellBd t B x) : onR t o x = (onC t o x, none) := by
  have hc : checkR t x.f0.f0 x.f0.f1 x.f1 = none := bd_check h1 h3 (by omega) h
  have hg := bd_good hB (on_bd o h0 h12 h)
  unfold onR
  rw [hc]
  simp only [h0, h12, and_self, hg, ↓reduceIte]
theorem backOp_f (o : Int) (h0 : 0 ≤ o) (h1 : o < 12) : axis_Operator_Back.f o = some (backR o) := by
  unfold axis_Operator_Back.f backR
  by_cases h6 : o ≥ 6
  · rw [if_pos h6, if_pos h6]
  · rw [if_neg h6, if_neg h6, w64i (6 - o) (by omega) (by omega), Int.tmod_eq_emod_of_nonneg (by omega)]
theorem shift_of {t B : Int} (A : Int) (l : List CL) (a b : Int) (hn : l.length < 1099511627776) (hB0 : 0 ≤ B) (hA0 : 0 ≤ A) (hB : B + A ≤ 1099511627776) (h : ∀ x ∈ l, cellBd t B x) (ha : -A ≤ a ∧ a ≤ A) (hb : -A ≤ b ∧ b ≤ A) :
    XShift.f l a b = some (ofL (l.map (sh a b)), none) := by
  unfold XShift.f
  rw [if_pos hn, if_pos]
  rw [List.all_eq_true]
  intro x hx
  have h1 := bd_good (by omega) (h x hx)
  have h2 := bd_good hB (sh_bd A (h x hx) ha hb)
  have h3 : goodP a b := by unfold goodP; omega
  unfold shOk
  simp only [sh] at h2
  simp only [h1, h3, decide_true, Bool.true_and, decide_eq_true_eq]
  rw [Int.add_comm x.f0.f0, Int.add_comm x.f0.f1]
  exact h2
theorem turn_of {t B : Int} (l : List CL) (o : Int) (h1 : 1 ≤ t) (h3 : t ≤ 3) (h0 : 0 ≤ o) (h12 : o < 12) (hn : l.length < 1099511627776) (hB0 : 0 ≤ B) (hB : 2 * B + 2 ≤ 1099511627776) (h : ∀ x ∈ l, cellBd t B x) :
    XTurn.f l t o = some (ofL (l.map (onC t o)), none) := by
  unfold XTurn.f
  rw [if_pos hn, if_pos]
  · congr 3
    exact List.map_congr_left (fun x hx => by rw [onR_bd o h1 h3 h0 h12 hB hB0 (h x hx)])
  · rw [List.all_eq_true]
    intro x hx
    rw [onR_bd o h1 h3 h0 h12 hB hB0 (h x hx)]
    rfl
theorem ofL_all {l : List CL} {P : CL → Prop} (h : ∀ x ∈ l, P x) : ∀ x ∈ ofL l, P x := fun x hx => h x ((ofL_mem l x).1 hx)
theorem map_all {α : Type} {l : List α} {f : α → CL} {P : CL → Prop} (h : ∀ x ∈ l, P (f x)) : ∀ x ∈ l.map f, P x := fun x hx => by
  obtain ⟨y, hy, rfl⟩ := List.mem_map.1 hx
  exact h y hy
theorem back_pure (a0 a1 : Int) (raw : List RC) (a3 a4 : Int) (hn : raw.length < 140737488351232) : honeycomblaw04_SetBack.f 100 a0 a1 raw a3 a4 = some true := by
  obtain ⟨t, ht⟩ : ∃ t : Int, t = 1 + a0 % 256 % 3 := ⟨_, rfl⟩
  have h1 : 1 ≤ t := by omega
  have h3 : t ≤ 3 := by omega
  obtain ⟨o, ho⟩ : ∃ o : Int, o = a1 % 256 % 12 := ⟨_, rfl⟩
  have h0 : 0 ≤ o := by omega
  have h12 : o < 12 := by omega
  obtain ⟨b0, b12⟩ := backR_rng o h0 h12
  have x0 := Int.tmod_lt_of_pos a3 (show (0 : Int) < 1000000 by omega)
  have x1 := Int.lt_tmod_of_pos a3 (show (0 : Int) < 1000000 by omega)
  have y0 := Int.tmod_lt_of_pos a4 (show (0 : Int) < 1000000 by omega)
  have y1 := Int.lt_tmod_of_pos a4 (show (0 : Int) < 1000000 by omega)
  unfold honeycomblaw04_SetBack.f
  rw [awake4_f, Option.bind_some, if_pos rfl, lattice_f, ← ht, Option.bind_some, some4_f 100 t raw hn (by omega), Option.bind_some, and_255, Int.tmod_eq_emod_of_nonneg (by omega : (0 : Int) ≤ a1 % 256), ← ho]
  generalize a3.tmod 1000000 = a at x0 x1 ⊢
  generalize a4.tmod 1000000 = b at y0 y1 ⊢
  obtain ⟨s, hs⟩ : ∃ s, s = ofL ((raw.take 40).map (someC t)) := ⟨_, rfl⟩
  have hbs : ∀ x ∈ s, cellBd t 99 x := by rw [hs]; exact ofL_all (map_all fun r _ => someC_bd t r)
  have hss : Srt s := by rw [hs]; exact ofL_srt _
  have hsl : s.length ≤ 40 := by
    rw [hs]
    refine Nat.le_trans (ofL_le _) ?_
    rw [List.length_map, List.length_take]; omega
  rw [← hs]
  clear hs
  rw [shift_of (t := t) (B := 99) 999999 s a b (by omega) (by omega) (by omega) (by omega) hbs (by omega) (by omega), Option.bind_some]
  obtain ⟨v, hv⟩ : ∃ v, v = ofL (s.map (sh a b)) := ⟨_, rfl⟩
  have hbv : ∀ x ∈ v, cellBd t 1000098 x := by rw [hv]; exact ofL_all (map_all fun x hx => sh_bd (B := 99) 999999 (hbs x hx) (by omega) (by omega))
  have hsv : Srt v := by rw [hv]; exact ofL_srt _
  have hshb : ∀ x ∈ s, sh (-a) (-b) (sh a b x) = x := by
    intro x hx
    simp only [sh]
    exact cl_ext (by simp only; omega) (by simp only; omega) rfl
  have hvl : v.length = s.length := by rw [hv]; exact ofL_map_length s _ _ hss hshb
  have hvb : ofL (v.map (sh (-a) (-b))) = s := by rw [hv]; exact ofL_back s _ _ hss hshb
  simp only [← hv]
  clear hv
  rw [turn_of (B := 1000098) v o h1 h3 h0 h12 (by omega) (by omega) (by omega) hbv, Option.bind_some, backOp_f o h0 h12, Option.bind_some]
  obtain ⟨u, hu⟩ : ∃ u, u = ofL (v.map (onC t o)) := ⟨_, rfl⟩
  have hbu : ∀ x ∈ u, cellBd t 2000198 x := by rw [hu]; exact ofL_all (map_all fun x hx => on_bd (B := 1000098) o h0 h12 (hbv x hx))
  have hsu : Srt u := by rw [hu]; exact ofL_srt _
  have honb : ∀ x ∈ v, onC t (backR o) (onC t o x) = x := fun x hx => onC_back t o x h0 h12 (hbv x hx).1
  have hul : u.length = v.length := by rw [hu]; exact ofL_map_length v _ _ hsv honb
  have hub : ofL (u.map (onC t (backR o))) = v := by rw [hu]; exact ofL_back v _ _ hsv honb
  simp only [← hu]
  clear hu
  rw [turn_of (B := 2000198) u (backR o) h1 h3 b0 b12 (by omega) (by omega) (by omega) hbu, Option.bind_some, hub]
  simp only
  rw [w64i (-a) (by omega) (by omega), w64i (-b) (by omega) (by omega), shift_of (t := t) (B := 1000098) 999999 v (-a) (-b) (by omega) (by omega) (by omega) (by omega) hbv (by omega) (by omega), Option.bind_some, hvb]
  simp only [Option.isNone_none, ↓reduceIte]
  rw [if_pos (by omega), same_f 100 v v (by omega) (by omega), Option.bind_some, decide_eq_true rfl, if_pos rfl, same_f 100 s s (by omega) (by omega), Option.bind_some, decide_eq_true rfl, if_pos rfl, chk_f 100 u t h1 h3 hsu (fun x hx => bd_check h1 h3 (by omega) (hbu x hx)) (by omega) (by omega), Option.bind_some]
  rfl
theorem setBack_walk (a0 a1 : Int) (A2 : Option Addr) (c2 : Nat) (l2 : List RC) (a3 a4 : Int) (w : World) (hr2 : Kd.C k24 w A2 l2.length l2) (hc2 : l2.length ≤ c2) (hn : l2.length < 140737488351232) :
    Calls Try.prog 5 #[.int .i64 a0, .int .i64 a1, .slice A2 l2.length c2, .int .i64 a3, .int .i64 a4] w fun e w' => e = .returned (.bool true) ∧ Below w.heap.size w w' :=
  honeycomblaw04_SetBack.calls 100 a0 a1 A2 c2 l2 a3 a4 true w hr2 hc2 (back_pure a0 a1 l2 a3 a4 hn)
end Go.Proofs.Ytpekdgdogmaohaa
