/- (Lattice).Check, (Lattice).Beside. -/
import Derived.Test.YtaeenefdbahfoaaDoorGood
import Derived.Test.YtaeenefdbahfoaaDoorNear
import Derived.Test.YtaeenefdbahfoaaDoorComp
namespace Go.Proofs.YtaeenefdbahfoaaDoor
open Go.RowKit Go.Proofs.YtaeenefdbahfoaaDoorW.PrintWords Go.Proofs.YtaeenefdbahfoaaDoorW.PrintLast Go.Proofs.YtaeenefdbahfoaaDoorW.PrintMore
open H
open Go.Shelf Go.RowKit Go.Lib Go.Sort

def nearL (l a b h : Int) : List S65 := if l = 1 then hexL a b 6 else if l = 2 then edgeL a b h 3 else vertL a b h 3
theorem near_any (l a b h : Int) (w : World) (hG : Six w) (hg : goodP a b) (hh0 : 0 ≤ h) (hh1 : h ≤ 1) :
    Calls Tryd.prog 106 #[.int .i64 l, .agg #[.int .i64 a, .int .i64 b, .int .i64 h]] w fun e w' => ∃ v : Value, e = .returned v ∧ Kd.R k65 65 w' w.heap.size (fun _ => True) v (nearL l a b h) ∧ Below w.heap.size w w' := by
  obtain ⟨g1, g2, g3, g4⟩ := hg
  unfold nearL
  by_cases h1 : l = 1
  · subst h1
    exact near_hex a b h w hG (by omega) (by omega) (by omega) (by omega)
  · rw [if_neg h1]
    by_cases h2 : l = 2
    · subst h2
      exact near_edge a b h w (by omega) (by omega) (by omega) (by omega) hh0 hh1
    · rw [if_neg h2]
      exact near_vert l a b h w h1 h2 (by omega) (by omega) (by omega) (by omega)

theorem near_ne (l a b h : Int) : nearL l a b h ≠ [] := by
  unfold nearL
  split
  · simp [hexL, sixP]
  · split
    · simp [edgeL, edgeP]
    · unfold vertL cornP
      split <;> simp [aroundL]
theorem near_len (l a b h : Int) : (nearL l a b h).length ≤ 18 := by
  unfold nearL
  split
  · simp [hexL, sixP]
  · split
    · simp [edgeL, edgeP]
    · exact vertL_len a b h 3

theorem near_row (l a b h : Int) (w : World) (hG : Six w) (hg : goodP a b) (hh0 : 0 ≤ h) (hh1 : h ≤ 1) :
    Calls Tryd.prog 106 #[.int .i64 l, .agg #[.int .i64 a, .int .i64 b, .int .i64 h]] w fun e w' => ∃ g cap : Nat, e = .returned (.slice (some ⟨g, 0, none⟩) (nearL l a b h).length cap) ∧ (nearL l a b h).length ≤ cap ∧ w.heap.size ≤ g ∧ Row3 w' g cap (nearL l a b h).toArray ∧ Below w.heap.size w w' := by
  refine (near_any l a b h w hG hg hh0 hh1).mono ?_
  rintro e w' ⟨v, rfl, hR, hB⟩
  rcases row_of_R hR with ⟨_, h0⟩ | ⟨g, cap, rfl, hb, _, hrow⟩
  · exact absurd h0 (near_ne l a b h)
  · exact ⟨g, cap, rfl, by simpa using hrow.le, hb, hrow, hB⟩

/-- those beside a cell: all that are near but itself, rising, each once -/
def farL (l a b h : Int) : List S65 := (nearL l a b h).filter fun x => !decide (x = ⟨⟨a, b⟩, h⟩)
def besideL (l a b h : Int) : List S65 := compactUpTo (sortCells (farL l a b h)).toArray (sortCells (farL l a b h)).toArray.size
def allGood (xs : List S65) : Prop := ∀ x ∈ xs, goodP x.f0.f0 x.f0.f1
def besideV (w' : World) (base : Nat) (e : Ending) (xs : List S65) : Prop := (allGood xs ∧ ∃ v, e = .returned (.tuple #[v, .nilIface]) ∧ Kd.R k65 65 w' base (fun _ => True) v xs) ∨ (¬ allGood xs ∧ e = .returned (.tuple #[.slice none 0 0, errW (some 6)]))

attribute [local go_sem high] eqCells
set_option maxRecDepth 100000 in
set_option maxHeartbeats 4000000 in
theorem beside_ok (l a b h : Int) (w : World) (hG : Six w) (hc : checkR l a b h = none) (hg : goodP a b) (hh0 : 0 ≤ h) (hh1 : h ≤ 1) (hne : farL l a b h ≠ []) :
    Calls Tryd.prog 89 #[.int .i64 l, .agg #[.int .i64 a, .int .i64 b, .int .i64 h]] w fun e w' => besideV w' w.heap.size e (besideL l a b h) ∧ Below w.heap.size w w' := by
  have hck := fun W => check_any l a b h W
  simp only [hc, errW_none] at hck
  obtain ⟨c, hcdef⟩ : ∃ c : S65, c = ⟨⟨a, b⟩, h⟩ := ⟨_, rfl⟩
  have hca : a = c.f0.f0 := by rw [hcdef]
  have hcb : b = c.f0.f1 := by rw [hcdef]
  have hch : h = c.f1 := by rw [hcdef]
  have hnr := fun W hW => near_row l a b h W hW hg hh0 hh1
  obtain ⟨L, hL⟩ : ∃ L, L = nearL l a b h := ⟨_, rfl⟩
  have hLn : L ≠ [] := by rw [hL]; exact near_ne l a b h
  have hLl : L.length ≤ 18 := by rw [hL]; exact near_len l a b h
  have hF : farL l a b h = L.filter fun x => !decide (x = c) := by rw [hL, hcdef]; rfl
  unfold besideL
  rw [hF] at hne ⊢
  obtain ⟨F, hFd⟩ : ∃ F, F = L.filter fun x => !decide (x = c) := ⟨_, rfl⟩
  rw [← hFd] at hne ⊢
  obtain ⟨X, hXd⟩ : ∃ X, X = compactUpTo (sortCells F).toArray (sortCells F).toArray.size := ⟨_, rfl⟩
  rw [← hXd]
  have HFD := Aside0.mk hFd
  have HXD := Aside0.mk hXd
  clear hFd hXd
  rw [← hL] at hnr
  rw [hca, hcb, hch] at hck hnr ⊢
  clear hca hcb hch hc hg hh0 hh1 hF hL hcdef
  go_enter Tryd.func89, Tryd.ntmps89
  go_wp2_with fail
  obtain ⟨w1, hw1, hcc, hsz, hB1⟩ := one_new w #[.int .i64 c.f0.f0, .int .i64 c.f0.f1, .int .i64 c.f1] 65
  rw [← hw1]
  clear hw1
  have hG1 := hG.below hB1
  have HB1 := Aside0.mk hB1
  clear hB1
  have d0 : w1.cell? ⟨w.heap.size, 0, none⟩ = some (.int .i64 c.f0.f0) := hcc 0 _ rfl
  have d1 : w1.cell? ⟨w.heap.size, 1, none⟩ = some (.int .i64 c.f0.f1) := hcc 1 _ rfl
  have d2 : w1.cell? ⟨w.heap.size, 2, none⟩ = some (.int .i64 c.f1) := hcc 2 _ rfl
  clear hcc
  have G1 := Aside0.mk hG1
  clear hG1 hG
  go_wp2_with (first
    | (go_at_call 81; refine (hck _).mono ?_; rintro e w2 ⟨rfl, hb2⟩
       have G2 := Aside0.mk (G1.out.below hb2)
       have d0 := pw_cell_below hb2 d0
       have d1 := pw_cell_below hb2 d1
       have d2 := pw_cell_below hb2 d2
       have HB2 := Aside0.mk hb2
       clear hb2)
    | (go_at_call 106; refine (hnr _ G2.out).mono ?_; rintro e w3 ⟨g3, c3, rfl, hlc3, hg3, hrow3, hb3⟩
       have d0 := pw_cell_below hb3 d0
       have d1 := pw_cell_below hb3 d1
       have d2 := pw_cell_below hb3 d2
       have HB3 := Aside0.mk (HB2.out.trans (hb3.mono HB2.out.size))
       have HR3 := Aside0.mk hrow3
       clear hb3 hrow3))
  have hz3 := HB3.out.size
  have hg3' := HR3.out.lt
  have C0 := Aside0.mk (And.intro d0 (And.intro d1 d2))
  clear d0 d1 d2
  go_loopw [7, 22] (fun v i wr => ∃ k : Nat, k ≤ L.length ∧ i = .int .i64 k ∧ Kd.R k65 65 wr w3.heap.size (fun _ => True) v ((L.take k).filter fun x => !decide (x = c)) ∧ Below w3.heap.size w3 wr) (fun _ i _ => L.length - (intOf i).toNat)
  case atStart => exact ⟨0, by omega, rfl, by simp; exact Kd.R_nil _ _ _ _ _, Below.refl _ _⟩
  case round =>
    obtain ⟨k, hk, rfl, hO, hB⟩ := hrel
    have HO := Aside0.mk hO
    have HB := Aside0.mk hB
    have d0 := pw_cell_below hB C0.out.1
    have d1 := pw_cell_below hB C0.out.2.1
    have d2 := pw_cell_below hB C0.out.2.2
    have hzr := hB.size
    have hzz : w.heap.size < wr.heap.size := Nat.lt_of_lt_of_le (Nat.lt_of_lt_of_le hsz hz3) hzr
    have hg3z : g3 < wr.heap.size := Nat.lt_of_lt_of_le hg3' hzr
    by_cases hlt : k < L.length
    · obtain ⟨a0, a1, a2⟩ := (HR3.out.below hB).cell k (by simpa using hlt)
      generalize hx : L.toArray[k]! = x at a0 a1 a2
      clear hO hB
      have HX := Aside0.mk hx
      clear hx
      have hlf : ((L.take k).filter fun x => !decide (x = c)).length ≤ 18 := Nat.le_trans (List.length_filter_le _ _) (by simp; omega)
      have htk : L.take (k + 1) = L.take k ++ [x] := by
        rw [List.take_add_one, List.getElem?_eq_getElem hlt]
        have : L.toArray[k]! = L[k] := by simp [hlt]
        rw [← HX.out, this]
        rfl
      have HTK := Aside0.mk htk
      clear htk
      by_cases hxc : x = c
      · go_wp2_with fail
        go_roundw
        case rel => exact ⟨k + 1, by omega, by go_num, by rw [HTK.out, List.filter_append]; simpa [hxc] using Kd.R_alloc HO.out _, below_alloc2 HB.out (by omega) _⟩
        case measure => simp [intOf]; omega
      · go_wp2_with (at_builtin; refine app1 k65 w3.heap.size (.tmp 29) (.tmp 31) 34 65 (.agg #[.int .i64 0, .int .i64 0, .int .i64 0]) 24 _ ((L.take k).filter fun x => !decide (x = c)) x [.int .i64 x.f0.f0, .int .i64 x.f0.f1, .int .i64 x.f1] _ rfl rfl Tryd.underlying34 info65 rfl (by decide) (by decide) rfl (by simp; done) rfl (k65_mkM _ _ _ _) (Kd.R_alloc HO.out _) (below_alloc2 HB.out (by omega) _) (by simp; omega) (by omega) ?_; intro v1 w4 ho4 hb4; have HO4 := Aside0.mk ho4; have HB4 := Aside0.mk hb4; clear ho4 hb4)
        go_roundw
        case rel => exact ⟨k + 1, by omega, by go_num, by rw [HTK.out, List.filter_append]; simpa [hxc] using HO4.out, HB4.out⟩
        case measure => simp [intOf]; omega
    · obtain rfl : k = L.length := by omega
      have hO2 := hO
      rw [List.take_length, ← HFD.out] at hO2
      rcases row_of_R hO2 with ⟨_, h0⟩ | ⟨g5, c5, rfl, hb5, _, hrow5⟩
      · exact absurd h0 hne
      have hlen5 : F.length ≤ 18 := by rw [HFD.out]; exact Nat.le_trans (List.length_filter_le _ _) hLl
      clear hO hO2 HO hck hnr
      have R5 := Aside0.mk hrow5
      have hsl : (sortCells F).length = F.length := List.length_mergeSort _
      have hsort := fun W hW => sort_any W g5 c5 F hW (by omega)
      have hcomp : ∀ W, Row3 W g5 c5 (sortCells F).toArray → Calls Tryd.prog 76 #[.slice (some ⟨g5, 0, none⟩) F.length c5] W fun e w' => e = .returned (.slice (some ⟨g5, 0, none⟩) X.length c5) ∧ Row3 w' g5 c5 X.toArray ∧ W.grownBy w' (some g5) := fun W hW => by
        have := compact_any W g5 c5 _ hW (by simp [hsl]; omega)
        rw [← HXD.out] at this
        rwa [show (sortCells F).toArray.size = F.length by simp [hsl]] at this
      clear hrow5
      have hXl : X.length ≤ 18 := by
        rw [HXD.out]
        unfold compactUpTo
        rw [List.length_map]
        exact Nat.le_trans (List.length_filter_le _ _) (by simp [hsl]; omega)
      go_wp2_with (first
        | (go_at_call 74; refine (hsort _ R5.out).mono ?_; rintro e w5 ⟨rfl, hr5, hgr5⟩; have R6 := Aside0.mk hr5; have GR5 := Aside0.mk hgr5; clear hr5 hgr5)
        | (go_at_call 76; refine (hcomp _ R6.out).mono ?_; rintro e w6 ⟨rfl, hr6, hgr6⟩; have R7 := Aside0.mk hr6; have GR6 := Aside0.mk hgr6; clear hr6 hgr6))
      have hB36 : Below w3.heap.size w3 w6 := pw_below_grown (pw_below_grown HB.out _ (by omega) GR5.out (fun k hk => by cases hk; exact hb5)) _ (Nat.le_trans (by omega) GR5.out.size) GR6.out (fun k hk => by cases hk; exact hb5)
      have HB36 := Aside0.mk hB36
      have hz36 := hB36.size
      clear hB36 hsort hcomp
      have hzw : w.heap.size ≤ w3.heap.size := by omega
      have hzb : w.heap.size ≤ g5 := by omega
      go_loopw [40] (fun i wq => ∃ k : Nat, k ≤ X.length ∧ i = .int .i64 k ∧ (∀ j, j < k → goodP X.toArray[j]!.f0.f0 X.toArray[j]!.f0.f1) ∧ Below w6.heap.size w6 wq) (fun i _ => X.length - (intOf i).toNat)
      case atStart => exact ⟨0, by omega, rfl, fun j hj => by omega, Below.refl _ _⟩
      case round =>
        obtain ⟨k, hk, rfl, hgood, hB⟩ := hrel
        have GD := Aside0.mk hgood
        have HBQ := Aside0.mk hB
        have hzq := hB.size
        have hg5q : g5 < wr.heap.size := (R7.out.below hB).lt
        by_cases hlt : k < X.length
        · obtain ⟨a0, a1, a2⟩ := (R7.out.below hB).cell k (by simpa using hlt)
          generalize hx : X.toArray[k]! = x at a0 a1 a2
          have HX := Aside0.mk hx
          have hga := fun W => good_any x.f0.f0 x.f0.f1 W
          clear hx hgood hB
          by_cases hgx : goodP x.f0.f0 x.f0.f1
          · rw [decide_eq_true hgx] at hga
            go_wp2_with (go_at_call 92; refine (hga _).mono ?_; rintro e w7 ⟨rfl, hb7⟩; have HB7 := Aside0.mk hb7; clear hb7)
            go_roundw
            case rel =>
              refine ⟨k + 1, by omega, by go_num, fun j hj => ?_, (below_alloc2 HBQ.out (by omega) _).trans (HB7.out.mono (by simp; omega))⟩
              rcases Nat.lt_or_ge j k with hjk | hjk
              · exact GD.out j hjk
              · obtain rfl : j = k := by omega
                rw [HX.out]
                exact hgx
            case measure => simp [intOf]; omega
          · rw [decide_eq_false hgx] at hga
            go_wp2_with (go_at_call 92; refine (hga _).mono ?_; rintro e w7 ⟨rfl, hb7⟩; have HB7 := Aside0.mk hb7; clear hb7)
            refine bodyPost_ret (v := .tuple #[.slice none 0 0, errW (some 6)]) (by simp [results, Tryd.results89, go_sem, errW_some]) rfl ⟨.inr ⟨fun hall => hgx ?_, rfl⟩, ?_⟩
            · have : x ∈ X := by
                have hxe : X.toArray[k]! = X[k] := by simp [hlt]
                rw [← HX.out, hxe]
                exact List.getElem_mem _
              exact hall x this
            · exact HB1.out.trans ((HB3.out.trans ((HB36.out.trans (((below_alloc2 HBQ.out (by omega) _).trans (HB7.out.mono (by simp; omega))).mono (by omega))).mono (by omega))).mono (by omega))
        · obtain rfl : k = X.length := by omega
          clear hB hgood
          go_wp2
          refine bodyPost_ret (v := .tuple #[.slice (some ⟨g5, 0, none⟩) X.length c5, .nilIface]) (by simp [results, Tryd.results89, go_sem]) rfl ⟨.inl ⟨fun x hx => ?_, _, rfl, R_of_row (R7.out.below HBQ.out) hzb trivial⟩, ?_⟩
          · obtain ⟨j, hj, rfl⟩ := List.getElem_of_mem hx
            have := GD.out j hj
            have hxe : X.toArray[j]! = X[j] := by simp [hj]
            rwa [hxe] at this
          · exact HB1.out.trans ((HB3.out.trans ((HB36.out.trans (HBQ.out.mono (by omega))).mono (by omega))).mono (by omega))
end Go.Proofs.YtaeenefdbahfoaaDoor
