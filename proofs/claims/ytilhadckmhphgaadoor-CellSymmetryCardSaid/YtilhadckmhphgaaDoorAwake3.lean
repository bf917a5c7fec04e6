/- awake of chapter 3's statements: it is true. -/
import Derived.Test.YtilhadckmhphgaaDoorPure3
import Derived.Test.YtilhadckmhphgaaDoorHCell0
import Derived.Deep.RegionHeld3
namespace Go.Proofs.YtilhadckmhphgaaDoor
open Go.RowKit Go.Proofs.YtilhadckmhphgaaDoorW.PrintWords Go.Proofs.YtilhadckmhphgaaDoorW.PrintLast Go.Proofs.YtilhadckmhphgaaDoorW.PrintMore
open H
open Go.Shelf Go.RowKit Go.Lib Go.Sort

theorem own_any (a b h : Int) (w : World) : Calls Tryd.prog 18 #[.agg #[.int .i64 a, .int .i64 b, .int .i64 h]] w fun e w' => e = .returned (.agg #[.int .i64 a, .int .i64 b, .int .i64 h]) ∧ Below w.heap.size w w' := by
  go_enter Tryd.func18, Tryd.ntmps18
  go_wp2
  exact bodyPost_ret (v := .agg #[.int .i64 a, .int .i64 b, .int .i64 h]) (by simp [results, Tryd.results18, go_sem]) rfl ⟨rfl, (by with_reducible repeat (first | apply below_alloc | apply pw_below_drewN | apply below_drew | refine bset ?_ _ _ (by omega) _ | exact Below.refl _ _))⟩

theorem name3 (w : World) : Calls Tryd.prog 19 #[.int .i64 3] w fun e w' => e = .returned (.string ⟨#[118, 101, 114, 116, 101, 120]⟩) ∧ Below w.heap.size w w' :=
  cell_Lattice_Name.calls 3 ⟨#[118, 101, 114, 116, 101, 120]⟩ w (by simp [cell_Lattice_Name.f, cell_Lattice_Good.f, wrap64, rdOf])
theorem namedE (w : World) : Calls Tryd.prog 20 #[.string ⟨#[101, 100, 103, 101]⟩] w fun e w' => e = .returned (.int .i64 2) ∧ Below w.heap.size w w' :=
  cell_Named.calls 5 ⟨#[101, 100, 103, 101]⟩ 2 w (by simp [cell_Named.f, slices_Index_string_string.f, slices_Index_string_string.l0, wrap64, rdOf])

/-- the three cells lie in row g, and nothing has turned that was there -/
abbrev S3 (B : Nat) (w0 : World) (g : Nat) (w : World) : Prop :=
  w.cell? ⟨g, 0, none⟩ = some (.int .i64 0) ∧ w.cell? ⟨g, 1, none⟩ = some (.int .i64 (-1)) ∧ w.cell? ⟨g, 2, none⟩ = some (.int .i64 1) ∧
  w.cell? ⟨g, 3, none⟩ = some (.int .i64 (-1)) ∧ w.cell? ⟨g, 4, none⟩ = some (.int .i64 0) ∧ w.cell? ⟨g, 5, none⟩ = some (.int .i64 1) ∧
  w.cell? ⟨g, 6, none⟩ = some (.int .i64 0) ∧ w.cell? ⟨g, 7, none⟩ = some (.int .i64 0) ∧ w.cell? ⟨g, 8, none⟩ = some (.int .i64 1) ∧ Below B w0 w ∧ B ≤ w.heap.size
theorem S3.below {B : Nat} {w0 : World} {g : Nat} {w w1 : World} (h : S3 B w0 g w) (hb : Below w.heap.size w w1) : S3 B w0 g w1 := by
  obtain ⟨h0, h1, h2, h3, h4, h5, h6, h7, h8, h9, h10⟩ := h
  exact ⟨pw_cell_below hb h0, pw_cell_below hb h1, pw_cell_below hb h2, pw_cell_below hb h3, pw_cell_below hb h4, pw_cell_below hb h5, pw_cell_below hb h6, pw_cell_below hb h7, pw_cell_below hb h8, h9.trans (hb.mono h10), Nat.le_trans h10 hb.size⟩

attribute [local go_sem high] eqCell
set_option maxRecDepth 100000 in
set_option maxHeartbeats 4000000 in
theorem awake_any (w : World) (hG : Six w) : Calls Tryd.prog 5 #[] w fun e w' => e = .returned (.bool true) ∧ Below w.heap.size w w' := by
  have hbs := fun W hW => beside_small 2 0 0 0 W hW (by omega) (by omega) (by omega) (by omega) (by omega) (by omega) (by omega) (by omega)
  have hL : (offs 2 0).map (sh 0 0) = [mk 0 (-1) 1, mk (-1) 0 1, mk 0 0 1] := by decide
  have hn : (offs 2 0).length = 3 := rfl
  rw [hL, hn] at hbs
  clear hL hn
  go_enter Tryd.func5, Tryd.ntmps5
  go_wp2_with (go_at_call 11; refine (hbs _ hG).mono ?_; rintro e w1 ⟨g, cap, rfl, hg, hrow, hb⟩)
  have hS : S3 w.heap.size w g w1 := by
    obtain ⟨a0, a1, a2⟩ := hrow.cell 0 (by decide)
    obtain ⟨b0, b1, b2⟩ := hrow.cell 1 (by decide)
    obtain ⟨c0, c1, c2⟩ := hrow.cell 2 (by decide)
    exact ⟨a0, a1, a2, b0, b1, b2, c0, c1, c2, hb, hb.size⟩
  have hSd : S3 w.heap.size w g w1.drew := by
    obtain ⟨h0, h1, h2, h3, h4, h5, h6, h7, h8, h9, h10⟩ := hS
    exact ⟨h0, h1, h2, h3, h4, h5, h6, h7, h8, below_drew h9, h10⟩
  clear hrow hb hbs
  go_region_held3 (fun W => W.cell? ⟨g, 0, none⟩ = some (.int .i64 0) ∧ W.cell? ⟨g, 1, none⟩ = some (.int .i64 (-1)) ∧ W.cell? ⟨g, 2, none⟩ = some (.int .i64 1) ∧
    W.cell? ⟨g, 3, none⟩ = some (.int .i64 (-1)) ∧ W.cell? ⟨g, 4, none⟩ = some (.int .i64 0) ∧ W.cell? ⟨g, 5, none⟩ = some (.int .i64 1) ∧
    W.cell? ⟨g, 6, none⟩ = some (.int .i64 0) ∧ W.cell? ⟨g, 7, none⟩ = some (.int .i64 0) ∧ W.cell? ⟨g, 8, none⟩ = some (.int .i64 1) ∧ Below w.heap.size w W ∧ w.heap.size ≤ W.heap.size) (assumption)
    (first
      | (go_at_call 18; refine (own_any _ _ _ _).mono ?_; rintro e w2 ⟨rfl, hb2⟩; have hS2 := S3.below (by assumption) hb2; clear hb2)
      | (go_at_call 19; refine (name3 _).mono ?_; rintro e w2 ⟨rfl, hb2⟩; have hS2 := S3.below (by assumption) hb2; clear hb2)
      | (go_at_call 20; refine (namedE _).mono ?_; rintro e w2 ⟨rfl, hb2⟩; have hS2 := S3.below (by assumption) hb2; clear hb2))
  all_goals
    go_wp2
    go_ret
    refine ⟨rfl, ?_⟩
    exact (by assumption : S3 w.heap.size w g _).2.2.2.2.2.2.2.2.2.1
end Go.Proofs.YtilhadckmhphgaaDoor
