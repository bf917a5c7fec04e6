/- (Set).Put. -/
import Derived.Test.YtpekdgdogmaohaaXDel
import Derived.Test.YtpekdgdogmaohaaXFind
import Derived.Deep.RegionHeld3
namespace Go.Proofs.Ytpekdgdogmaohaa
open Go.RowKit Go.Proofs.YtpekdgdogmaohaaW.PrintWords Go.Proofs.YtpekdgdogmaohaaW.PrintLast Go.Proofs.YtpekdgdogmaohaaW.PrintMore
open H
open Go.Shelf Go.RowKit Go.Lib Go.Sort

theorem below_sets {base : Nat} {w : World} {g : Nat} (hg : base ≤ g) : ∀ (vs : List Value) (o : Nat) (W : World), Below base w W → Below base w (W.setCells g o vs)
  | [], _, _, h => h
  | v :: r, o, _, h => below_sets hg r (o + 1) _ (Below.setCell (p := ⟨g, o, none⟩) h hg v)

/-- a slice of the call's own: none, or a row from its block's head on -/
def Ownd (W : World) (base : Nat) (bs : Option Addr) (cap : Nat) (l : CLs) : Prop :=
  (bs = none ∧ l = [] ∧ cap = 0) ∨ ∃ g, bs = some ⟨g, 0, none⟩ ∧ base ≤ g ∧ Row3 W g cap l.toArray
theorem Ownd.below {W W1 : World} {base : Nat} {bs : Option Addr} {cap : Nat} {l : CLs} (h : Ownd W base bs cap l) (hb : Below W.heap.size W W1) : Ownd W1 base bs cap l := by
  rcases h with h | ⟨g, h1, h2, h3⟩
  · exact .inl h
  · exact .inr ⟨g, h1, h2, h3.below hb⟩
theorem ownd_of_R {w : World} {base : Nat} {ok : Nat → Prop} {v : Value} {xs : CLs} (h : Kd.R k37 37 w base ok v xs) : ∃ bs cap, v = .slice bs xs.length cap ∧ Ownd w base bs cap xs := by
  rcases row_of_R h with ⟨rfl, rfl⟩ | ⟨g, cap, rfl, hg, _, hr⟩
  · exact ⟨none, 0, rfl, .inl ⟨rfl, rfl, rfl⟩⟩
  · exact ⟨_, cap, rfl, .inr ⟨g, rfl, hg, hr⟩⟩

theorem ins_all (l : CLs) (x : S37) (i : Nat) (bs : Option Addr) (cap vb base : Nat) (W : World) (hi : i ≤ l.length) (hl : l.length < 5864062014000) (h : Ownd W base bs cap l) (hbase : base ≤ W.heap.size) (hV : One W vb x) (hne : ∀ g, bs = some ⟨g, 0, none⟩ → vb ≠ g) :
    Calls Try.prog 34 #[.slice bs l.length cap, .int .i64 i, .slice (some ⟨vb, 0, none⟩) 1 1] W fun e w' => ∃ v, e = .returned v ∧ Kd.R k37 37 w' base (fun _ => True) v (insAt l i x) ∧ Below base W w' := by
  have hlen := insAt_length l i x hi
  have hnew : ∀ G, G * 3 = G * 3 := fun _ => rfl
  have key : ∀ (g c : Nat) (w' : World), base ≤ g → Row3 w' g c (insAt l i x).toArray → Below base W w' → ∃ v, Ending.returned (.slice (some ⟨g, 0, none⟩) (l.length + 1) c) = .returned v ∧ Kd.R k37 37 w' base (fun _ => True) v (insAt l i x) ∧ Below base W w' := fun g c w' hg hr hb => by
    rw [← hlen]
    exact ⟨_, rfl, R_of_row hr hg trivial, hb⟩
  by_cases hin : i < l.length
  · rcases h with ⟨_, h0, _⟩ | ⟨g, rfl, hg, hR⟩
    · rw [h0] at hin; simp at hin
    · have hle : l.length ≤ cap := by have := hR.le; simpa using this
      by_cases hroom : l.length + 1 ≤ cap
      · refine (ins_shift l x i g cap vb W hin hroom hR hV (hne g rfl)).mono ?_
        rintro e w' ⟨rfl, rfl⟩
        refine key g cap _ hg ?_ (below_sets hg _ _ _ (below_sets hg _ _ _ (below_drew (Below.refl _ _))))
        have h1 := Row3.lay (l.drop i) (i + 1) l _ hR.drew (by omega) (by rw [List.length_drop]; omega)
        have h2 := Row3.lay [x] i _ _ h1 (by rw [List.length_append, List.length_append, List.length_take]; omega) (by simp; omega)
        have e : (l.take (i + 1) ++ l.drop i ++ l.drop (i + 1 + (l.drop i).length)).take i ++ [x] ++ (l.take (i + 1) ++ l.drop i ++ l.drop (i + 1 + (l.drop i).length)).drop (i + [x].length) = insAt l i x := by
          have e1 : l.drop (i + 1 + (l.drop i).length) = [] := List.drop_eq_nil_of_le (by rw [List.length_drop]; omega)
          have e2 : (l.take (i + 1)).length = i + 1 := by rw [List.length_take]; omega
          rw [e1, List.append_nil, List.take_append_of_le_length (by omega), List.take_take, Nat.min_eq_left (Nat.le_succ i)]
          rw [show i + [x].length = (l.take (i + 1)).length by rw [e2]; rfl, List.drop_left]
          simp [insAt]
        rw [e] at h2
        exact h2
      · refine (ins_grow l x i g cap vb W hin (by omega) (by omega) hR hV).mono ?_
        rintro e w' ⟨rfl, rfl⟩
        have hG := grownCap_ge W (l.length + 1) cap 37
        have hGm := grownCap_le_maxLen W (l.length + 1) cap 37 (by unfold maxLen; omega)
        generalize grownCap W (l.length + 1) cap 37 = G at hG hGm ⊢
        refine key W.heap.size G _ hbase ?_ (below_sets hbase _ _ _ (below_drew (below_sets hbase _ _ _ (below_drew (below_alloc2 (Below.refl _ _) hbase _)))))
        have htl : (l.take i).length = i := by rw [List.length_take]; omega
        have h0 : Row3 (W.alloc (.cells ((flatC (l.take i)).toArray ++ Builtin.zeroCells z3 (l.length + 1 - i) ++ Builtin.zeroCells z3 (G - (l.length + 1))) 37)) W.heap.size G (l.take i).toArray := by
          refine Row3.of_flat (blk_new W _) ?_ (by omega) hGm (fun t v ht => ?_)
          · rw [Array.size_append, Array.size_append, zeros_size, zeros_size, List.size_toArray, flat_length, htl]; omega
          · have hlt := (List.getElem?_eq_some_iff.1 ht).1
            rw [Array.append_assoc, Array.getElem?_append_left (by simpa using hlt)]
            simpa using ht
        have h1 := Row3.lay [x] i _ _ h0.drew (by omega) (by simp; omega)
        have e1 : (l.take i).take i ++ [x] ++ (l.take i).drop (i + [x].length) = l.take i ++ [x] := by
          rw [List.take_take, Nat.min_self, List.drop_eq_nil_of_le (by rw [htl]; simp), List.append_nil]
        rw [e1] at h1
        have h2 := Row3.lay (l.drop i) (i + 1) _ _ h1.drew (by rw [List.length_append, htl]; simp) (by rw [List.length_drop]; omega)
        have e2 : (l.take i ++ [x]).length = i + 1 := by rw [List.length_append, htl]; rfl
        have e3 : (l.take i ++ [x]).take (i + 1) ++ l.drop i ++ (l.take i ++ [x]).drop (i + 1 + (l.drop i).length) = insAt l i x := by
          rw [List.take_of_length_le (by omega), List.drop_eq_nil_of_le (show (l.take i ++ [x]).length ≤ i + 1 + (l.drop i).length by omega), List.append_nil, insAt, List.append_assoc]; rfl
        rw [e3] at h2
        exact h2
  · obtain rfl : i = l.length := by omega
    have hia : insAt l l.length x = l ++ [x] := by simp [insAt]
    by_cases hroom : l.length + 1 ≤ cap
    · rcases h with ⟨_, h0, h1⟩ | ⟨g, rfl, hg, hR⟩
      · omega
      · refine (ins_end_room l x g cap vb W hroom hR hV).mono ?_
        rintro e w' ⟨rfl, rfl⟩
        refine key g cap _ hg ?_ (below_sets hg _ _ _ (Below.refl _ _))
        have h1 := Row3.lay [x] l.length l _ hR (Nat.le_refl _) (by simpa using hroom)
        have e : l.take l.length ++ [x] ++ l.drop (l.length + [x].length) = insAt l l.length x := by simp [insAt]
        rw [e] at h1
        exact h1
    · have hle : l.length ≤ cap := by
        rcases h with ⟨_, h0, h1⟩ | ⟨g, rfl, hg, hR⟩
        · rw [h0]; simp
        · have := hR.le; simpa using this
      refine (ins_end_grow l x bs cap vb W (by omega) hle (by omega) (fun hn => ?_) (fun a ha => ?_) hV).mono ?_
      · rcases h with ⟨_, h0, _⟩ | ⟨g, h1, _⟩
        · exact h0
        · rw [hn] at h1; cases h1
      · rcases h with ⟨h0, _⟩ | ⟨g, h1, _, hR⟩
        · rw [h0] at ha; cases ha
        · rw [h1] at ha
          cases ha
          exact ⟨g, rfl, hR⟩
      · rintro e w' ⟨rfl, rfl⟩
        have hG := grownCap_ge W (l.length + 1) cap 37
        have hGm := grownCap_le_maxLen W (l.length + 1) cap 37 (by unfold maxLen; omega)
        generalize grownCap W (l.length + 1) cap 37 = G at hG hGm ⊢
        refine key W.heap.size G _ hbase ?_ (below_alloc2 (below_drew (Below.refl _ _)) hbase _)
        have efl : flatC l ++ flatC [x] = flatC (insAt l l.length x) := by rw [hia]; simp [flatC]
        rw [efl]
        refine Row3.of_flat (blk_new W.drew _) ?_ (by rw [hlen]; exact hG) hGm (fun t v ht => ?_)
        · rw [Array.size_append, zeros_size, List.size_toArray, flat_length, hlen]; omega
        · have hlt := (List.getElem?_eq_some_iff.1 ht).1
          rw [Array.getElem?_append_left (by simpa using hlt)]
          simpa using ht

theorem del_all (l : CLs) (i : Nat) (bs : Option Addr) (cap base : Nat) (W : World) (hi : i < l.length) (h : Ownd W base bs cap l) :
    Calls Try.prog 35 #[.slice bs l.length cap, .int .i64 i, .int .i64 ((i : Int) + 1)] W fun e w' => ∃ v, e = .returned v ∧ Kd.R k37 37 w' base (fun _ => True) v (delAt l i) ∧ Below base W w' := by
  rcases h with ⟨_, h0, _⟩ | ⟨g, rfl, hg, hR⟩
  · rw [h0] at hi; simp at hi
  · have hle : l.length ≤ cap := by have := hR.le; simpa using this
    refine (del_any l i g cap W hi hR).mono ?_
    rintro e w' ⟨rfl, rfl⟩
    have hlen := delAt_length l i hi
    have h1 := Row3.lay (l.drop (i + 1)) i l _ hR.drew (by omega) (by rw [List.length_drop]; omega)
    have h2 := h1.pre (delAt l i).toArray (by simp [delAt]) (fun j hj => ?_)
    · have h3 := Row3.sets_out [.int .i64 0, .int .i64 0, .int .i64 0] ((l.length - 1) * 3) _ h2 (by simp [hlen])
      refine ⟨_, rfl, ?_, below_sets hg _ _ _ (below_sets hg _ _ _ (below_drew (Below.refl _ _)))⟩
      rw [← hlen]
      exact R_of_row (by rw [hlen]; exact h3) hg trivial
    · have hj' : j < (delAt l i).length := by simpa using hj
      have e : l.take i ++ l.drop (i + 1) ++ l.drop (i + (l.drop (i + 1)).length) = delAt l i ++ l.drop (i + (l.drop (i + 1)).length) := rfl
      rw [e]
      simp [hj', List.getElem?_append_left hj']

/-- slices.Clone of a set -/
theorem clone_set (A0 : Option Addr) (c0 : Nat) (l0 : CLs) (w : World) (hr0 : Kd.C k37 w A0 l0.length l0) (hl : l0.length < 5864062014805) :
    Calls Try.prog 33 #[.slice A0 l0.length c0] w fun e w' => ∃ v, e = .returned v ∧ Kd.R k37 37 w' w.heap.size (fun _ => True) v l0 ∧ Below w.heap.size w w' := by
  have hq := fun W n c => Lib.run_eql_slice_nil (P := Try.prog) W 28 37 A0 n c 0 0 ut
  have HR := Aside0.mk hr0
  clear hr0
  cases A0 with
  | none =>
    have h0 : l0 = [] := by
      have h1 := HR.out.2.2
      rcases Nat.eq_zero_or_pos l0.length with h | h
      · exact List.length_eq_zero_iff.1 h
      · obtain ⟨ad, h2, _⟩ := h1 h
        cases h2
    simp only [Option.isNone_none] at hq
    go_enter Try.func33, Try.ntmps33
    go_wp2
    go_ret
    exact ⟨_, rfl, by rw [h0]; exact Kd.R_nil _ _ _ _ _, (by with_reducible repeat (first | apply below_alloc | apply pw_below_drewN | apply below_drew | refine bset ?_ _ _ (by omega) _ | exact Below.refl _ _))⟩
  | some ad =>
    simp only [Option.isNone_some] at hq
    have hR := R_lit w
    have HL := Aside0.mk hR
    clear hR
    go_enter Try.func33, Try.ntmps33
    go_wp2_with (at_builtin; refine appN k37 w.heap.size (.tmp 5) (.tmp 6) 28 37 (.agg #[.int .i64 0, .int .i64 0, .int .i64 0]) 24 (w0 := w) _ [] l0 (some ad) c0 rfl rfl ut info37 rfl (by decide) (by decide) rfl rfl (fun x cs h => by obtain rfl := k37_open h; exact k37_mkM _ _ _ _) HL.out (Kd.C_below HR.out (below_alloc2 (Below.refl _ _) (Nat.le_refl _) _)) (below_alloc2 (Below.refl _ _) (Nat.le_refl _) _) (by simp) (by simp; omega) ?_; intro v1 w4 ho4 hb4; have HO4 := Aside0.mk ho4; have HB4 := Aside0.mk hb4; clear ho4 hb4)
    go_ret
    exact ⟨_, rfl, by simpa using HO4.out, HB4.out⟩

/-- with a cell, or without -/
def putL (l : CLs) (c : S37) (live : Bool) : CLs := if decide (c ∈ l) = live then l else if live = true then insAt l (lo l c) c else delAt l (lo l c)
def XPut.f (l : CLs) (a b h : Int) (live : Bool) : Option CLs := if l.length < 1099511627776 then (if Srt l then some (putL l (mk a b h) live) else none) else none

abbrev SP (A0 : Option Addr) (l0 : CLs) (g : Nat) (w : World) (a b h : Int) (W : World) : Prop := W.cell? ⟨g, 0, none⟩ = some (.int .i64 a) ∧ W.cell? ⟨g, 1, none⟩ = some (.int .i64 b) ∧ W.cell? ⟨g, 2, none⟩ = some (.int .i64 h) ∧ Kd.C k37 W A0 l0.length l0 ∧ Below w.heap.size w W ∧ w.heap.size ≤ W.heap.size
theorem SP.below {A0 : Option Addr} {l0 : CLs} {g : Nat} {w : World} {a b h : Int} {W W1 : World} (hs : SP A0 l0 g w a b h W) (hb : Below W.heap.size W W1) : SP A0 l0 g w a b h W1 := by
  obtain ⟨h0, h1, h2, h3, h4, h5⟩ := hs
  exact ⟨pw_cell_below hb h0, pw_cell_below hb h1, pw_cell_below hb h2, Kd.C_below h3 hb, h4.trans (hb.mono (by omega)), Nat.le_trans h5 hb.size⟩
theorem SP.base {A0 : Option Addr} {l0 : CLs} {g : Nat} {w : World} {a b h : Int} {W1 : World} (hs : SP A0 l0 g w a b h w) (hb : Below w.heap.size w W1) : SP A0 l0 g w a b h W1 := hs.below hb
theorem Ownd.lower {W : World} {base base' : Nat} {bs : Option Addr} {cap : Nat} {l : CLs} (h : Ownd W base bs cap l) (hb : base' ≤ base) : Ownd W base' bs cap l := by
  rcases h with h | ⟨g, h1, h2, h3⟩
  · exact .inl h
  · exact .inr ⟨g, h1, by omega, h3⟩
theorem Ownd.at {W : World} {base g : Nat} {bs : Option Addr} {cap : Nat} {l : CLs} (h : Ownd W base bs cap l) (hg : bs = some ⟨g, 0, none⟩) : base ≤ g ∧ g < W.heap.size := by
  rcases h with ⟨h, _⟩ | ⟨g', h1, h2, h3⟩
  · rw [h] at hg; cases hg
  · rw [h1] at hg
    cases hg
    exact ⟨h2, h3.lt⟩
theorem ins_a (l : CLs) (x : S37) (i : Nat) (bs : Option Addr) (cap base base' : Nat) (w3 : World) (hi : i ≤ l.length) (hl : l.length < 5864062014000) (h : Ownd w3 base' bs cap l) (hb : base ≤ base') (hz : base ≤ w3.heap.size) :
    Calls Try.prog 34 #[.slice bs l.length cap, .int .i64 i, .slice (some ⟨w3.heap.size, 0, none⟩) 1 1] (w3.alloc (.cells #[.int .i64 x.f0.f0, .int .i64 x.f0.f1, .int .i64 x.f1] 37)) fun e w' => ∃ v, e = .returned v ∧ Kd.R k37 37 w' base (fun _ => True) v (insAt l i x) ∧ Below base w3 w' := by
  have hB := below_alloc (Below.refl w3.heap.size w3) (.cells #[.int .i64 x.f0.f0, .int .i64 x.f0.f1, .int .i64 x.f1] 37)
  refine (ins_all l x i bs cap w3.heap.size base _ hi hl ((h.lower hb).below hB) (Nat.le_trans hz hB.size) ⟨blk_new _ _⟩ (fun g hg => ?_)).mono ?_
  · have := (h.at hg).2; omega
  · rintro e w' ⟨v, rfl, hr, hbb⟩
    exact ⟨v, rfl, hr, (hB.mono hz).trans hbb⟩
theorem ins_b (l : CLs) (x : S37) (i : Nat) (bs : Option Addr) (cap base vb : Nat) (wc w3 : World) (hi : i ≤ l.length) (hl : l.length < 5864062014000) (h : Ownd w3 wc.heap.size bs cap l) (hb : base ≤ wc.heap.size) (hB : Below wc.heap.size wc w3) (hv : One wc vb x) :
    Calls Try.prog 34 #[.slice bs l.length cap, .int .i64 i, .slice (some ⟨vb, 0, none⟩) 1 1] w3 fun e w' => ∃ v, e = .returned v ∧ Kd.R k37 37 w' base (fun _ => True) v (insAt l i x) ∧ Below base w3 w' := by
  have hlt : vb < wc.heap.size := blk_lt hv.blk
  refine ins_all l x i bs cap vb base _ hi hl (h.lower hb) (Nat.le_trans hb hB.size) ⟨blk_below hv.blk hB⟩ (fun g hg => ?_)
  have := (h.at hg).1; omega
set_option maxHeartbeats 2000000 in
set_option maxRecDepth 100000 in
theorem XPut.calls (A0 : Option Addr) (c0 : Nat) (l0 : List S37) (a1_0 : Int) (a1_1 : Int) (a1_2 : Int) (a2 : Bool) (r : List S37) (w : World) (hr0 : Kd.C k37 w A0 l0.length l0) (hc0 : l0.length ≤ c0) (h : XPut.f l0 a1_0 a1_1 a1_2 a2 = some r) :
    Calls Try.prog 15 #[.slice A0 l0.length c0, .agg #[.int .i64 a1_0, .int .i64 a1_1, .int .i64 a1_2], .bool a2] w fun e w' => ∃ v0_ : Value, e = .returned (v0_) ∧ Kd.R k37 37 w' w.heap.size (fun _ => True) v0_ r ∧ Below w.heap.size w w' := by
  unfold XPut.f at h
  by_cases hn : l0.length < 1099511627776
  · rw [if_pos hn] at h
    by_cases hs : Srt l0
    · rw [if_pos hs] at h
      obtain rfl := Option.some.inj h
      clear h
      have hf := fun W hC => XFind.calls A0 c0 l0 a1_0 a1_1 a1_2 (lo l0 (mk a1_0 a1_1 a1_2) : Nat) (decide (mk a1_0 a1_1 a1_2 ∈ l0)) W hC hc0 (by unfold XFind.f; rw [if_pos hn, if_pos hs])
      have hcl := fun W hC => clone_set A0 c0 l0 W hC (by omega)
      have hlo := lo_le l0 (mk a1_0 a1_1 a1_2)
      have hloh := lo_has hs (mk a1_0 a1_1 a1_2)
      have hlt : mk a1_0 a1_1 a1_2 ∈ l0 → lo l0 (mk a1_0 a1_1 a1_2) < l0.length := fun hm => (hloh.2 hm).1
      clear hloh
      unfold putL
      have HS := Aside0.mk hs
      clear hs
      generalize lo l0 (mk a1_0 a1_1 a1_2) = i at *
      have hlt2 : decide (mk a1_0 a1_1 a1_2 ∈ l0) = true → i < l0.length := fun hd => hlt (of_decide_eq_true hd)
      clear hlt
      generalize decide (mk a1_0 a1_1 a1_2 ∈ l0) = ok at *
      generalize hX : (if ok = a2 then l0 else if a2 = true then insAt l0 i (mk a1_0 a1_1 a1_2) else delAt l0 i) = X
      have HX := Aside0.mk hX
      have HF := Aside0.mk hf
      have HCL := Aside0.mk hcl
      have HR := Aside0.mk hr0
      clear hf hcl hr0 hX
      go_enter Try.func15, Try.ntmps15
      go_wp2_with fail
      obtain ⟨w1, hw1, hcc, hsz, hB1⟩ := one_new w #[.int .i64 a1_0, .int .i64 a1_1, .int .i64 a1_2] 37
      rw [← hw1]
      have y0 : w1.cell? ⟨w.heap.size, 0, none⟩ = some (.int .i64 a1_0) := hcc 0 _ rfl
      have y1 : w1.cell? ⟨w.heap.size, 1, none⟩ = some (.int .i64 a1_1) := hcc 1 _ rfl
      have y2 : w1.cell? ⟨w.heap.size, 2, none⟩ = some (.int .i64 a1_2) := hcc 2 _ rfl
      clear hw1 hcc
      have HB1 := Aside0.mk hB1
      have R1 := Aside0.mk (Kd.C_below HR.out hB1)
      clear HR
      go_wp2_with fail
      refine (HF.out w1 R1.out).mono ?_
      rintro e w2 ⟨rfl, hb2⟩
      have y0 := pw_cell_below hb2 y0
      have y1 := pw_cell_below hb2 y1
      have y2 := pw_cell_below hb2 y2
      have HB2 := Aside0.mk (HB1.out.trans (hb2.mono HB1.out.size))
      have R2 := Aside0.mk (Kd.C_below R1.out hb2)
      have hsz2 := hb2.size
      clear hb2 hB1 HF HB1 R1
      have Y0 := Aside0.mk y0
      have Y1 := Aside0.mk y1
      have Y2 := Aside0.mk y2
      have same : ∀ (e : Ending) (w' : World) (v : Value), Kd.R k37 37 w' w2.heap.size (fun _ => True) v l0 → Below w2.heap.size w2 w' → Kd.R k37 37 w' w.heap.size (fun _ => True) v l0 ∧ Below w.heap.size w w' := fun e w' v h1 h2 => ⟨Kd.R_lower h1 (by omega), HB2.out.trans (h2.mono (by omega))⟩
      cases ok
      · cases a2
        · have hX : X = l0 := HX.out.symm.trans (if_pos rfl)
          go_wp2_with (go_at_call 33; refine (HCL.out _ R2.out).mono ?_; rintro e w3 ⟨v3, rfl, ho3, hb3⟩; have O3 := Aside0.mk ho3; have B3 := Aside0.mk hb3; clear ho3 hb3)
          go_ret
          exact ⟨_, rfl, by rw [hX]; exact same (.returned v3) _ _ O3.out B3.out⟩
        · have hX : X = insAt l0 i (mk a1_0 a1_1 a1_2) := HX.out.symm.trans ((if_neg (by decide)).trans (if_pos rfl))
          go_wp2_with fail
          have hS : SP A0 l0 w.heap.size w2 a1_0 a1_1 a1_2 w2 := ⟨y0, y1, y2, R2.out, Below.refl _ _, Nat.le_refl _⟩
          have HS0 := Aside0.mk hS
          clear hlt2 same
          go_region_held3 (fun W => W.cell? ⟨w.heap.size, 0, none⟩ = some (.int .i64 a1_0) ∧ W.cell? ⟨w.heap.size, 1, none⟩ = some (.int .i64 a1_1) ∧ W.cell? ⟨w.heap.size, 2, none⟩ = some (.int .i64 a1_2) ∧ Kd.C k37 W A0 l0.length l0 ∧ Below w2.heap.size w2 W ∧ w2.heap.size ≤ W.heap.size)
            (first | assumption | exact SP.below hS3 (by with_reducible repeat (first | exact Below.refl _ _ | apply below_alloc | apply pw_below_drewN | apply below_drew)) | exact SP.below HS0.out (by with_reducible repeat (first | exact Below.refl _ _ | apply below_alloc | apply pw_below_drewN | apply below_drew)))
            (first
              | (go_at_call 33; go_loud (refine (HCL.out _ (by assumption : SP A0 l0 w.heap.size w2 a1_0 a1_1 a1_2 _).2.2.2.1).mono ?_); rintro e w3 ⟨v3, rfl, ho3, hb3⟩; obtain ⟨bs, cap, rfl, hown⟩ := ownd_of_R ho3; have HZ := Aside0.mk (by assumption : SP A0 l0 w.heap.size w2 a1_0 a1_1 a1_2 _).2.2.2.2.2; have hS3 := SP.below (w := w2) (by assumption) hb3; have ON := Aside0.mk hown; have HB3 := Aside0.mk hb3; clear ho3 hb3 hown)
              | (go_at_call 34; (first
                | with_reducible refine (ins_a l0 ⟨⟨a1_0, a1_1⟩, a1_2⟩ i _ _ w2.heap.size _ _ hlo (by omega) ON.out (HZ.out) (Nat.le_trans HZ.out HB3.out.size)).mono ?_
                | with_reducible refine (ins_b l0 ⟨⟨a1_0, a1_1⟩, a1_2⟩ i _ _ w2.heap.size _ _ _ hlo (by omega) ON.out (HZ.out) HB3.out ⟨by first | exact blk_new _ _ | exact blk_drew (blk_new _ _)⟩).mono ?_); rintro e w4 ⟨v4, rfl, ho4, hb4⟩; have B4 := Aside0.mk ((by assumption : SP A0 l0 w.heap.size w2 a1_0 a1_1 a1_2 w3).2.2.2.2.1.trans hb4); have hS4 := SP.base HS0.out B4.out; have O4 := Aside0.mk ho4; clear ho4 hb4))
          all_goals
            go_wp2
            go_ret
            exact ⟨_, rfl, by rw [hX]; exact Kd.R_lower O4.out (by omega), HB2.out.trans (B4.out.mono (by omega))⟩
      · cases a2
        · have hX : X = delAt l0 i := HX.out.symm.trans ((if_neg (by decide)).trans (if_neg (by decide)))
          go_wp2_with (go_at_call 33; refine (HCL.out _ R2.out).mono ?_; rintro e w3 ⟨v3, rfl, ho3, hb3⟩; have O3 := Aside0.mk ho3; have B3 := Aside0.mk hb3; clear ho3 hb3)
          obtain ⟨bs, cap, rfl, hown⟩ := ownd_of_R (Kd.R_lower O3.out (base' := w.heap.size) (by omega))
          refine (del_all l0 i bs cap w.heap.size w3 (hlt2 trivial) hown).mono ?_
          rintro e w4 ⟨v4, rfl, ho4, hb4⟩
          have O4 := Aside0.mk ho4
          have B4 := Aside0.mk ((HB2.out.trans (B3.out.mono (by omega))).trans hb4)
          clear ho4 hb4 hown
          go_wp2
          go_ret
          exact ⟨_, rfl, by rw [hX]; exact O4.out, B4.out⟩
        · have hX : X = l0 := HX.out.symm.trans (if_pos rfl)
          go_wp2_with (go_at_call 33; refine (HCL.out _ R2.out).mono ?_; rintro e w3 ⟨v3, rfl, ho3, hb3⟩; have O3 := Aside0.mk ho3; have B3 := Aside0.mk hb3; clear ho3 hb3)
          go_ret
          exact ⟨_, rfl, by rw [hX]; exact same (.returned v3) _ _ O3.out B3.out⟩
    · rw [if_neg hs] at h
      cases h
  · rw [if_neg hn] at h
    cases h
end Go.Proofs.Ytpekdgdogmaohaa
