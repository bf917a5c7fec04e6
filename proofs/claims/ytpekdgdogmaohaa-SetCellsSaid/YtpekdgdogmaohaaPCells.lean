/- SetCells: any cells. Plain. -/
import Derived.Test.YtpekdgdogmaohaaPRef4
import Derived.Test.YtpekdgdogmaohaaXTouches
import Derived.Test.YtpekdgdogmaohaaHhoneycomblaw04SetCells
namespace Go.Proofs.Ytpekdgdogmaohaa
open Go.RowKit Go.Proofs.YtpekdgdogmaohaaW.PrintWords Go.Proofs.YtpekdgdogmaohaaW.PrintLast Go.Proofs.YtpekdgdogmaohaaW.PrintMore
open H
open Go.RowKit
set_option linter.unusedSimpArgs false

/-- a box's sides, against a list and where it began -/
theorem box_fold : ∀ (l : List CL) (b : Int × Int × Int × Int), 
    (∀ y ∈ l, (l.foldl boxS b).1 ≤ y.f0.f0 ∧ y.f0.f0 ≤ (l.foldl boxS b).2.2.1 ∧ (l.foldl boxS b).2.1 ≤ y.f0.f1 ∧ y.f0.f1 ≤ (l.foldl boxS b).2.2.2) ∧
    ((l.foldl boxS b).1 ≤ b.1 ∧ b.2.2.1 ≤ (l.foldl boxS b).2.2.1 ∧ (l.foldl boxS b).2.1 ≤ b.2.1 ∧ b.2.2.2 ≤ (l.foldl boxS b).2.2.2) ∧
    ((l.foldl boxS b).1 = b.1 ∨ ∃ y ∈ l, y.f0.f0 = (l.foldl boxS b).1) ∧ ((l.foldl boxS b).2.2.1 = b.2.2.1 ∨ ∃ y ∈ l, y.f0.f0 = (l.foldl boxS b).2.2.1) ∧
    ((l.foldl boxS b).2.1 = b.2.1 ∨ ∃ y ∈ l, y.f0.f1 = (l.foldl boxS b).2.1) ∧ ((l.foldl boxS b).2.2.2 = b.2.2.2 ∨ ∃ y ∈ l, y.f0.f1 = (l.foldl boxS b).2.2.2)
  | [], b => by simp
  | x :: r, b => by
    obtain ⟨h1, h2, h3, h4, h5, h6⟩ := box_fold r (boxS b x)
    rw [List.foldl_cons]
    generalize r.foldl boxS (boxS b x) = q at *
    obtain ⟨q1, q2, q3, q4⟩ := q
    obtain ⟨b1, b2, b3, b4⟩ := b
    simp only [boxS] at *
    have H3 := Aside0.mk h3
    have H4 := Aside0.mk h4
    have H5 := Aside0.mk h5
    have H6 := Aside0.mk h6
    clear h3 h4 h5 h6
    refine ⟨fun y hy => ?_, by omega, ?_, ?_, ?_, ?_⟩
    · rcases List.mem_cons.1 hy with rfl | hy
      · omega
      · exact h1 y hy
    · rcases H3.out with h | ⟨y, hy, h⟩
      · by_cases hm : b1 ≤ x.f0.f0
        · exact .inl (by omega)
        · exact .inr ⟨x, List.mem_cons_self, by omega⟩
      · exact .inr ⟨y, List.mem_cons_of_mem _ hy, h⟩
    · rcases H4.out with h | ⟨y, hy, h⟩
      · by_cases hm : x.f0.f0 ≤ b3
        · exact .inl (by omega)
        · exact .inr ⟨x, List.mem_cons_self, by omega⟩
      · exact .inr ⟨y, List.mem_cons_of_mem _ hy, h⟩
    · rcases H5.out with h | ⟨y, hy, h⟩
      · by_cases hm : b2 ≤ x.f0.f1
        · exact .inl (by omega)
        · exact .inr ⟨x, List.mem_cons_self, by omega⟩
      · exact .inr ⟨y, List.mem_cons_of_mem _ hy, h⟩
    · rcases H6.out with h | ⟨y, hy, h⟩
      · by_cases hm : x.f0.f1 ≤ b4
        · exact .inl (by omega)
        · exact .inr ⟨x, List.mem_cons_self, by omega⟩
      · exact .inr ⟨y, List.mem_cons_of_mem _ hy, h⟩
/-- a box of a list that isn't empty: none is outside, each side is reached -/
theorem box_ok (l : List CL) (hn : l.length < 1099511627776) : ∃ b1 b2 b3 b4, XBox.f l = some (b1, b2, b3, b4, decide (0 < l.length)) ∧ (∀ y ∈ l, b1 ≤ y.f0.f0 ∧ y.f0.f0 ≤ b3 ∧ b2 ≤ y.f0.f1 ∧ y.f0.f1 ≤ b4) ∧
    (l = [] → b1 = 0 ∧ b2 = 0 ∧ b3 = 0 ∧ b4 = 0) ∧ (0 < l.length → tch (l.map told) b1 b2 b3 b4 = true) := by
  unfold XBox.f
  rw [if_pos hn]
  cases l with
  | nil => exact ⟨0, 0, 0, 0, rfl, by simp, fun _ => ⟨rfl, rfl, rfl, rfl⟩, fun h => absurd h (by decide)⟩
  | cons x r =>
    have hb := box_fold (x :: r) (x.f0.f0, x.f0.f1, x.f0.f0, x.f0.f1)
    refine ⟨_, _, _, _, by simp only [List.length_cons, Nat.zero_lt_succ, decide_true]; rfl, fun y hy => hb.1 y hy, fun h => (by cases h), fun _ => ?_⟩
    generalize (x :: r).foldl boxS (x.f0.f0, x.f0.f1, x.f0.f0, x.f0.f1) = q at hb
    obtain ⟨_, _, h3, h4, h5, h6⟩ := hb
    simp only at h3 h4 h5 h6
    have k3 : ∃ y ∈ x :: r, y.f0.f0 = q.1 := h3.elim (fun h => ⟨x, List.mem_cons_self, h.symm⟩) id
    have k4 : ∃ y ∈ x :: r, y.f0.f0 = q.2.2.1 := h4.elim (fun h => ⟨x, List.mem_cons_self, h.symm⟩) id
    have k5 : ∃ y ∈ x :: r, y.f0.f1 = q.2.1 := h5.elim (fun h => ⟨x, List.mem_cons_self, h.symm⟩) id
    have k6 : ∃ y ∈ x :: r, y.f0.f1 = q.2.2.2 := h6.elim (fun h => ⟨x, List.mem_cons_self, h.symm⟩) id
    have tp : ∀ (p : RC → Bool), (∃ y ∈ x :: r, p (told y) = true) → decide (0 < tc p ((x :: r).map told)) = true := fun p h => by
      obtain ⟨y, hy, hp⟩ := h
      exact decide_eq_true ((tc_pos p _).2 ⟨told y, List.mem_map.2 ⟨y, hy, rfl⟩, hp⟩)
    obtain ⟨y3, m3, e3⟩ := k3
    obtain ⟨y4, m4, e4⟩ := k4
    obtain ⟨y5, m5, e5⟩ := k5
    obtain ⟨y6, m6, e6⟩ := k6
    unfold tch
    rw [tp _ ⟨y3, m3, by simp [told, e3]⟩, tp _ ⟨y4, m4, by simp [told, e4]⟩, tp _ ⟨y5, m5, by simp [told, e5]⟩, tp _ ⟨y6, m6, by simp [told, e6]⟩]
    rfl
theorem cells_l0 (l : List CL) (ok : Bool) (b1 b2 b3 b4 : Int) (hn : l.length ≤ 1000) (hin : ∀ y ∈ l, b1 ≤ y.f0.f0 ∧ y.f0.f0 ≤ b3 ∧ b2 ≤ y.f0.f1 ∧ y.f0.f1 ≤ b4) (hok : ok = true → tch (l.map told) b1 b2 b3 b4 = true) (hno : ok = false → b1 = 0 ∧ b2 = 0 ∧ b3 = 0 ∧ b4 = 0) :
    ∀ (d k : Nat) (j : Nat), j + d = l.length → 2 * d + 1 ≤ k → honeycomblaw04_SetCells.l0 k (l.map told) ok (l.map told) ((l.map told).length : Int) j b1 b2 b3 b4 = some true := by
  intro d
  induction d with
  | zero =>
    intro k j hj hk
    obtain ⟨k, rfl⟩ : ∃ m, k = m + 1 := ⟨k - 1, by omega⟩
    simp only [honeycomblaw04_SetCells.l0]
    rw [if_neg (by rw [List.length_map]; omega)]
    cases ok
    · obtain ⟨rfl, rfl, rfl, rfl⟩ := hno rfl
      rfl
    · rw [if_pos rfl, XTouches.f, if_pos (by rw [List.length_map]; omega), Option.bind_some, hok rfl]
  | succ d ih =>
    intro k j hj hk
    obtain ⟨k, rfl⟩ : ∃ m, k = m + 1 := ⟨k - 1, by omega⟩
    obtain ⟨k1, rfl⟩ : ∃ m, k = m + 1 := ⟨k - 1, by omega⟩
    have h1 : j < l.length := by omega
    have hw : wrap64 ((j : Int) + 1) = ((j + 1 : Nat) : Int) := by rw [w64i ((j : Int) + 1) (by omega) (by omega)]; rfl
    have j4f : honeycomblaw04_SetCells.j4 (k1 + 1) (l.map told) ok (l.map told) ((l.map told).length : Int) j false b1 b2 b3 b4 = some true := by
      simp only [honeycomblaw04_SetCells.j4]
      rw [if_neg (by decide), hw]
      exact ih k1 (j + 1) (by omega) (by omega)
    obtain ⟨kk, hkk⟩ : ∃ kk, kk = k1 + 1 := ⟨_, rfl⟩
    rw [← hkk] at j4f ⊢
    simp only [honeycomblaw04_SetCells.l0]
    obtain ⟨i1, i2, i3, i4⟩ := hin l[j] (List.getElem_mem h1)
    rw [if_pos (by rw [List.length_map]; omega), if_pos (by omega), if_pos (by rw [List.length_map]; omega), rdT l j h1]
    rw [if_neg (show ¬ (told l[j]).f0 < b1 by show ¬ l[j].f0.f0 < b1; omega), if_neg (show ¬ (told l[j]).f0 > b3 by show ¬ l[j].f0.f0 > b3; omega), if_neg (show ¬ (told l[j]).f1 < b2 by show ¬ l[j].f0.f1 < b2; omega), decide_eq_false (show ¬ (told l[j]).f1 > b4 by show ¬ l[j].f0.f1 > b4; omega)]
    exact j4f
theorem put_same {l : List CL} (c : CL) (live : Bool) (h : Srt l) : decide (l = putL l c live) = decide ((putL l c live).length = l.length) := by
  refine decide_eq_decide.2 ⟨fun e => by rw [← e], fun e => ?_⟩
  unfold putL at *
  split at e
  · rename_i h1; rw [if_pos h1]
  · rename_i h1
    split at e
    · rw [insAt_length l _ c (lo_le l c)] at e; omega
    · rename_i h2
      have hc : c ∈ l := by
        by_cases hc : c ∈ l
        · exact hc
        · exfalso
          cases live
          · exact h1 (decide_eq_false hc)
          · exact h2 rfl
      have := ((lo_has h c).2 hc).1
      rw [delAt_length l _ this] at e; omega
theorem cells_pure (raw : List RC) (a b h : Int) (live : Bool) (hn : raw.length < 140737488351232) : honeycomblaw04_SetCells.f 2000 raw a b h live = some true := by
  unfold honeycomblaw04_SetCells.f
  rw [awake4_f, Option.bind_some, if_pos rfl, own4_f 2000 raw hn (by omega), Option.bind_some]
  have hl : ((raw.take 40).map ownC).length ≤ 40 := by rw [List.length_map, List.length_take]; omega
  generalize (raw.take 40).map ownC = own at hl
  have hsl := ofL_le own
  have hss := ofL_srt own
  rw [XOf.f, if_pos (by omega), Option.bind_some, told4_f 2000 own (by omega) (by omega), Option.bind_some, ofR_f 2000 own (by omega) (by omega), Option.bind_some]
  generalize ofL own = s at hsl hss
  rw [are_f 2000 s (by omega) (by omega), Option.bind_some, if_pos rfl, own3_f, Option.bind_some]
  change ((set_Set_Has.f s a b h).bind _) = _
  rw [has_f hss (by omega), Option.bind_some]
  obtain ⟨c, hc⟩ : ∃ c : CL, c = mk a b h := ⟨_, rfl⟩
  have hh : honeycombref04_Has.f 2000 (s.map told) a b h = some (decide (c ∈ s)) := by rw [hc]; exact hasR_f 2000 s (mk a b h) (by omega) (by omega)
  rw [hh, Option.bind_some, ← hc, if_neg (by simp), Option.bind_some, told4_f 2000 own (by omega) (by omega), Option.bind_some, are_f 2000 own (by omega) (by omega), Option.bind_some]
  change honeycomblaw04_SetCells.j0 (1999 + 1) live s (s.map told) false a b h = _
  generalize hk9 : (1999 : Nat) = k9
  simp only [honeycomblaw04_SetCells.j0]
  rw [if_neg (by decide), own3_f, Option.bind_some]
  change ((XPut.f s a b h live).bind _) = _
  rw [put_f hss (by omega), Option.bind_some, ← hc]
  have hless : honeycombref04_Less.f k9 (s.map told) a b h = some ((putL s c false).map told) := by rw [hc]; exact lessR_f k9 hss (mk a b h) (by omega) (by omega)
  have hput : honeycombref04_Put.f k9 (s.map told) a b h = some ((putL s c true).map told) := by rw [hc]; exact putR_f k9 hss (mk a b h) (by omega) (by omega)
  rw [hless, Option.bind_some, hput, Option.bind_some]
  have hj1 : (if live = true then honeycomblaw04_SetCells.j1 k9 s (s.map told) (putL s c live) ((putL s c true).map told) else honeycomblaw04_SetCells.j1 k9 s (s.map told) (putL s c live) ((putL s c false).map told)) = honeycomblaw04_SetCells.j1 k9 s (s.map told) (putL s c live) ((putL s c live).map told) := by
    cases live
    · rw [if_neg (by decide)]
    · rw [if_pos rfl]
  refine hj1.trans ?_
  have hpl := putL_length s c live
  have hps := put_same c live hss
  generalize putL s c live = t at hpl hps
  obtain ⟨k8, rfl⟩ : ∃ m, k9 = m + 1 := ⟨1998, by omega⟩
  obtain ⟨b1, b2, b3, b4, hx, hin, hno, hok⟩ := box_ok s (by omega)
  simp only [honeycomblaw04_SetCells.j1]
  rw [hx, Option.bind_some, are_f k8 t (by omega) (by omega), Option.bind_some, if_pos rfl, are_f k8 s (by omega) (by omega), Option.bind_some, if_pos rfl]
  have e1 : decide (((s.map told).length : Int) > 0) = decide (0 < s.length) := by
    rw [List.length_map]
    exact decide_eq_decide.2 (by omega)
  rw [e1, if_neg (by simp), same_f k8 s t (by omega) (by omega), Option.bind_some, hps]
  have e2 : (decide (t.length = s.length) != (((t.map told).length : Int) == ((s.map told).length : Int))) = false := by
    rw [List.length_map, List.length_map]
    by_cases e : t.length = s.length
    · simp [e]
    · have : ¬ ((t.length : Int) = (s.length : Int)) := by omega
      rw [decide_eq_false e, beq_eq_false_iff_ne.2 this]
      rfl
  rw [e2]
  obtain ⟨k7, rfl⟩ : ∃ m, k8 = m + 1 := ⟨1997, by omega⟩
  simp only [honeycomblaw04_SetCells.j2]
  rw [if_neg (by decide)]
  have := cells_l0 s (decide (0 < s.length)) b1 b2 b3 b4 (by omega) hin (fun h => hok (of_decide_eq_true h)) (fun h => hno (List.length_eq_zero_iff.1 (by have := of_decide_eq_false h; omega))) s.length k7 0 (by omega) (by omega)
  exact this
theorem setCells_walk (A0 : Option Addr) (c0 : Nat) (l0 : List RC) (a b h : Int) (live : Bool) (w : World) (hr0 : Kd.C k24 w A0 l0.length l0) (hc0 : l0.length ≤ c0) (hn : l0.length < 140737488351232) :
    Calls Try.prog 3 #[.slice A0 l0.length c0, .agg #[.int .i64 a, .int .i64 b, .int .i64 h], .bool live] w fun e w' => e = .returned (.bool true) ∧ Below w.heap.size w w' :=
  honeycomblaw04_SetCells.calls 2000 A0 c0 l0 a b h live true w hr0 hc0 (cells_pure l0 a b h live hn)
end Go.Proofs.Ytpekdgdogmaohaa
