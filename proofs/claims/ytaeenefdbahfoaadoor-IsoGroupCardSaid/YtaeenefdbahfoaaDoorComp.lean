/- slices.SortFunc and slices.Compact at cells. -/
import Derived.Test.YtaeenefdbahfoaaDoorSort
import Derived.Test.YtaeenefdbahfoaaDoorLaySort
import Derived.Lib.SlicesCompact
namespace Go.Proofs.YtaeenefdbahfoaaDoor
open Go.RowKit Go.Proofs.YtaeenefdbahfoaaDoorW.PrintWords Go.Proofs.YtaeenefdbahfoaaDoorW.PrintLast Go.Proofs.YtaeenefdbahfoaaDoorW.PrintMore
open H
open Go.Shelf Go.RowKit Go.Lib Go.Sort

theorem sort_any (w : World) (g cap : Nat) (xs : List S65) (h : Row3 w g cap xs.toArray) (hsz : xs.length < 4611686018427387904) :
    Calls Tryd.prog 74 #[.slice (some ⟨g, 0, none⟩) xs.length cap, .func (.func 75) #[] #[]] w fun e w' => e = .returned (.tuple #[]) ∧ Row3 w' g cap (sortCells xs).toArray ∧ w.grownBy w' (some g) := by
  have eg : ∀ args w, (callFunc 75 args).run Tryd.prog w = .ok (.enter 75 args) w := enters_of Tryd.func75 (by kernel_rfl) rfl
  have hcmp : CmpLays Tryd.prog 75 #[] encCell 3 cmpCell g 0 xs.toArray.size w := fun _ _ _ _ x y => compare_any x y _
  have hcon := AnyQ.slices_SortFunc_total Tryd.sortCell 3 Tryd.isAgg65 Tryd.sizeOf65 encCell (fun _ => rfl) (fun x v hv => by simp [encCell] at hv; rcases hv with rfl | rfl | rfl <;> rfl) cmpCell swo_cell 75 #[] g 0 cap xs.toArray w eg hcmp (holds_row h) h.lt (by simpa using hsz) tot_cell
  refine Calls.mono hcon ?_
  rintro e w' ⟨rfl, n, os, rfl⟩
  exact ⟨rfl, row_sorted h (by simp [List.length_mergeSort])⟩

theorem sort_none (w : World) (v : Value) : Calls Tryd.prog 74 #[.slice none 0 0, v] w fun e w' => e = .returned (.tuple #[]) ∧ w' = w :=
  AnyF.slices_SortFunc_none Tryd.sortCell none 0 v w

theorem grownBy_refl (w : World) (g : Nat) : w.grownBy w (some g) := ⟨rfl, rfl, rfl, Nat.le_refl _, fun _ _ _ => rfl⟩
theorem grownBy_set {w W : World} {g : Nat} (h : w.grownBy W (some g)) (o : Nat) (v : Value) : w.grownBy (W.setCell ⟨g, o, none⟩ v) (some g) :=
  ⟨h.os, h.tape, h.output, by simpa using h.size, fun k hk hne => (Below.heap_setCell W ⟨g, o, none⟩ v k (fun e => hne (by rw [e]))).trans (h.block k hk hne)⟩
theorem grownBy_drewN {w W : World} {g : Nat} (h : w.grownBy W (some g)) (n : Nat) : w.grownBy (W.drewN n) (some g) := ⟨h.os, h.tape, h.output, h.size, h.block⟩
theorem grownBy_drew {w W : World} {g : Nat} (h : w.grownBy W (some g)) : w.grownBy W.drew (some g) := ⟨h.os, h.tape, h.output, h.size, h.block⟩
theorem grownBy_sets {w : World} {g : Nat} : ∀ (vs : List Value) (o : Nat) (W : World), w.grownBy W (some g) → w.grownBy (W.setCells g o vs) (some g)
  | [], _, _, h => h
  | v :: r, o, _, h => grownBy_sets r (o + 1) _ (grownBy_set h o v)
section
variable {w : World} {g cap : Nat} {d : Array S65}
theorem Row3.set_out (h : Row3 w g cap d) (o : Nat) (ho : d.size * 3 ≤ o) (v : Value) : Row3 (w.setCell ⟨g, o, none⟩ v) g cap d := by
  obtain ⟨cur, hb, hs, hc⟩ := h.blk
  refine ⟨h.le, h.max, _, blk_set hb _ _, by simp [hs], fun j hj => ?_⟩
  obtain ⟨c0, c1, c2⟩ := hc j hj
  refine ⟨?_, ?_, ?_⟩ <;> (rw [Array.getElem?_setIfInBounds, if_neg (by omega)]; assumption)
theorem Row3.sets_out : ∀ (vs : List Value) (o : Nat) (w : World), Row3 w g cap d → d.size * 3 ≤ o → Row3 (w.setCells g o vs) g cap d
  | [], _, _, h, _ => h
  | v :: r, o, _, h, ho => Row3.sets_out r (o + 1) _ (h.set_out o ho v) (by omega)
theorem Row3.pre (h : Row3 w g cap d) (d' : Array S65) (hs : d'.size ≤ d.size) (hd : ∀ j, j < d'.size → d'[j]! = d[j]!) : Row3 w g cap d' := by
  obtain ⟨cur, hb, hcs, hc⟩ := h.blk
  exact ⟨Nat.le_trans hs h.le, h.max, cur, hb, hcs, fun j hj => by rw [hd j hj]; exact hc j (by omega)⟩
theorem Row3.drew (h : Row3 w g cap d) : Row3 w.drew g cap d := ⟨h.le, h.max, h.blk⟩
theorem Row3.drewN (h : Row3 w g cap d) (n : Nat) : Row3 (w.drewN n) g cap d := ⟨h.le, h.max, h.blk⟩
end

theorem clear_cells (w : World) (g cap : Nat) (d : Array S65) (h : Row3 w g cap d) (k : Nat) (hk : k < d.size) (ty : TypeId) (c : Nat) :
    (Builtin.clear_ #[34] ty #[.slice (some ⟨g, k * 3, none⟩) (d.size - k) c]).run Tryd.prog w = .ok (.tuple #[]) (w.setCells g (k * 3) (List.replicate ((d.size - k) * 3) (.int .i64 0))) := by
  have hle := h.le
  have hz : (Builtin.zeroCells #[Value.int .i64 0, .int .i64 0, .int .i64 0] (d.size - k)).toList = List.replicate ((d.size - k) * 3) (.int .i64 0) := by
    simp only [Builtin.zeroCells, Array.toList_map, Array.toList_range, List.size_toArray]
    apply List.ext_getElem
    · simp
    · intro i h1 h2
      have : i % 3 = 0 ∨ i % 3 = 1 ∨ i % 3 = 2 := by omega
      rcases this with e | e | e <;> simp [e]
  have hcell : ∀ j, j < d.size * 3 → (w.cell? ⟨g, j, none⟩).isSome = true := fun j hj => by
    obtain ⟨c0, c1, c2⟩ := h.cell (j / 3) (by omega)
    have : j = j / 3 * 3 ∨ j = j / 3 * 3 + 1 ∨ j = j / 3 * 3 + 2 := by omega
    rcases this with e | e | e <;> (rw [e]; simp [c0, c1, c2])
  have hst := run_storeCells_cells (P := Tryd.prog) g (k * 3) (List.replicate ((d.size - k) * 3) (.int .i64 0)) 0 w (fun j hj => hcell _ (by simp at hj; omega)) (fun j hj => h.frozen _) (by intro v hv; rw [List.eq_of_mem_replicate hv]; rfl)
  simp only [Nat.add_zero] at hst
  obtain ⟨m, hm⟩ : ∃ m, d.size - k = m + 1 := ⟨d.size - k - 1, by omega⟩
  rw [hm] at hz hst ⊢
  have hv : ∀ w, (zeroValue 65).run Tryd.prog w = .ok (.agg #[.int .i64 0, .int .i64 0, .int .i64 0]) w := Tryd.zeroValue65
  simp [Builtin.clear_, run_underlying Tryd.underlying34, hv, Value.cells, hz, hst]

theorem eqPt (d : Nat) (w : World) (x0 y0 : Int) (x1 y1 : Int) :
    (Op.equalIn (d + 2) 63 (.agg #[.int .i64 x0, .int .i64 x1]) (.agg #[.int .i64 y0, .int .i64 y1])).run Tryd.prog w = .ok (x0 == y0 && (x1 == y1)) w := by
  refine eqA_of Tryd.underlying63 (by kernel_rfl) ?_
  refine eqf_cons (by rfl) (by go_simp; rfl) (by go_simp; rfl) (by go_simp) ?_
  exact eqf_last (by rfl) (by go_simp; rfl) (by go_simp; rfl) (by go_simp)
theorem eqCell (d : Nat) (w : World) (x0 y0 : Int) (x1 y1 : Int) (x2 y2 : Int) :
    (Op.equalIn (d + 3) 65 (.agg #[.int .i64 x0, .int .i64 x1, .int .i64 x2]) (.agg #[.int .i64 y0, .int .i64 y1, .int .i64 y2])).run Tryd.prog w = .ok ((x0 == y0 && (x1 == y1)) && (x2 == y2)) w := by
  refine eqA_of Tryd.underlying65 (by kernel_rfl) ?_
  refine eqf_cons (by rfl) (by go_simp) (by go_simp) (eqPt (d + 0) w _ _ _ _) ?_
  exact eqf_last (by rfl) (by go_simp; rfl) (by go_simp; rfl) (by go_simp)
/-- two cells' sameness, at cells that are whole -/
theorem eqCells (d : Nat) (w : World) (x y : S65) :
    (Op.equalIn (d + 3) 65 (.agg #[.int .i64 x.f0.f0, .int .i64 x.f0.f1, .int .i64 x.f1]) (.agg #[.int .i64 y.f0.f0, .int .i64 y.f0.f1, .int .i64 y.f1])).run Tryd.prog w = .ok (decide (x = y)) w := by
  rw [eqCell]
  congr 1
  obtain ⟨⟨a, b⟩, h⟩ := x
  obtain ⟨⟨c, d⟩, k⟩ := y
  rw [Bool.eq_iff_iff]
  simp [S65.mk.injEq, S63.mk.injEq]

attribute [local go_sem high] eqCells
theorem comp_all {d : Array S65} (h : ∀ j, j < d.size → keeps d j = true) : compactUpTo d d.size = d.toList := by
  rw [compactUpTo_all d _ h, range_map_get]

set_option maxHeartbeats 4000000 in
set_option maxRecDepth 100000 in
theorem compact_any (w : World) (g cap : Nat) (d : Array S65) (h : Row3 w g cap d) (hsz : d.size < 4611686018427387904) :
    Calls Tryd.prog 76 #[.slice (some ⟨g, 0, none⟩) d.size cap] w fun e w' => e = .returned (.slice (some ⟨g, 0, none⟩) (compactUpTo d d.size).length cap) ∧ Row3 w' g cap (compactUpTo d d.size).toArray ∧ w.grownBy w' (some g) := by
  have hle := h.le
  have hmx : cap ≤ 9223372036854775807 := h.max
  have HR := Aside0.mk h
  clear h
  by_cases h2 : d.size < 2
  · go_enter Tryd.func76, Tryd.ntmps76
    go_wp2
    go_ret
    have e := comp_all (d := d) (fun j hj => keeps_lt_one d j (by omega))
    rw [e]
    exact ⟨by simp, HR.out, grownBy_refl _ _⟩
  · go_enter Tryd.func76, Tryd.ntmps76
    go_wp2
    go_loopw [3] (fun s3 wr => ∃ k q : Nat, 1 ≤ k ∧ k ≤ d.size ∧ s3 = .int .i64 k ∧ wr = w.drewN q ∧ ∀ j, j < k → keeps d j = true) (fun s3 _ => d.size - (intOf s3).toNat)
    case atStart => exact ⟨1, 0, Nat.le_refl _, by omega, rfl, rfl, keeps_lt_one d⟩
    case round =>
      obtain ⟨k, q, hk1, hk, rfl, rfl, hall⟩ := hrel
      by_cases hlt : k < d.size
      · have A := Aside0.mk hall
        clear hall
        obtain ⟨a0, a1, a2⟩ := HR.out.cell k hlt
        obtain ⟨km, hkm⟩ : ∃ km, km = k - 1 := ⟨_, rfl⟩
        have hkm' : km < d.size := by omega
        obtain ⟨b0, b1, b2⟩ := HR.out.cell km hkm'
        generalize hx : d[k]! = x at a0 a1 a2
        generalize hy : d[km]! = y at b0 b1 b2
        have B := Aside0.mk (And.intro hx hy)
        clear hx hy
        have hw : IntKind.i64.wrap ((k : Int) - 1) = (km : Int) := by rw [IntKind.wrap_i64]; omega
        have KM := Aside0.mk hkm
        clear hkm
        go_wp2_with fail
        go_quiet (fail)
        by_cases hdup : x = y
        · have DUP := Aside0.mk hdup
          go_wp2_with fail
          clear a0 a1 a2 b0 b1 b2 hw
          go_loopw [3, 5] (fun s3 s5 wr => ∃ (kk k2 : Nat) (dk : Array S65), s3 = .int .i64 kk ∧ s5 = .int .i64 k2 ∧ 1 ≤ k2 ∧ k + k2 ≤ d.size ∧ CompInv d (k + k2) kk dk ∧ Row3 wr g cap dk ∧ w.grownBy wr (some g)) (fun _ s5 _ => d.size - (intOf s5).toNat)
          case atStart => exact ⟨k, 1, d, rfl, rfl, Nat.le_refl _, by omega, CompInv.start A.out (keeps_neg (by omega) (by rw [B.out.1, ← KM.out, B.out.2]; exact DUP.out)), HR.out.drewN _, grownBy_drewN (grownBy_refl _ _) _⟩
          case round =>
            obtain ⟨kk, k2, dk, rfl, rfl, h1, hle2, hI, hR, hG⟩ := hrel
            have hkk := hI.lt
            have hds := hI.size
            have I2 := Aside0.mk hI
            have R2 := Aside0.mk hR
            have G2 := Aside0.mk hG
            by_cases hlt2 : k + k2 < d.size
            · obtain ⟨km2, hkm2⟩ : ∃ km, km = k2 - 1 := ⟨_, rfl⟩
              obtain ⟨a0, a1, a2⟩ := hR.cell (k + k2) (by omega)
              obtain ⟨b0, b1, b2⟩ := hR.cell (k + km2) (by omega)
              have f0 := hR.frozen
              have hkb : kk < d.size := by omega
              obtain ⟨c0, c1, c2⟩ := hR.cell kk (by omega)
              have hkm2' : km2 < d.size - k := by omega
              have hk2' : k2 < d.size - k := by omega
              have hw : IntKind.i64.wrap ((k2 : Int) - 1) = (km2 : Int) := by rw [IntKind.wrap_i64]; omega
              rw [hI.high (k + k2) (by omega), show (k + k2) * 3 = k * 3 + k2 * 3 by omega] at a0 a1 a2
              rw [hI.high (k + km2) (by omega), show (k + km2) * 3 = k * 3 + km2 * 3 by omega] at b0 b1 b2
              clear hI hR hG
              generalize hu : d[k + k2]! = u at a0 a1 a2
              generalize hv : d[k + km2]! = v at b0 b1 b2
              generalize dk[kk]! = old at c0 c1 c2
              have C := Aside0.mk (And.intro hu hv)
              have KM2 := Aside0.mk hkm2
              clear hu hv hkm2 hdup
              go_wp2_with fail
              go_quiet (fail)
              by_cases huv : u = v
              · rw [show decide (u = v) = true from by simp [huv]]
                go_wp2_with fail
                go_roundw
                case rel => exact ⟨kk, k2 + 1, dk, rfl, by go_num, by omega, by omega, I2.out.skip (keeps_neg (by omega) (by rw [C.out.1, show k + k2 - 1 = k + km2 by have := KM2.out; omega, C.out.2]; exact huv)), R2.out.drewN _, grownBy_drewN G2.out _⟩
                case measure => simp [intOf]; omega
              · rw [show decide (u = v) = false from by simp [huv]]
                go_wp2_with fail
                go_roundw
                case rel => exact ⟨kk + 1, k2 + 1, dk.setIfInBounds kk u, by go_num, by go_num, by omega, by omega, by have := I2.out.keep hlt2 (keeps_pos (by rw [C.out.1, show k + k2 - 1 = k + km2 by have := KM2.out; omega, C.out.2]; exact huv)); rwa [C.out.1] at this, (R2.out.drewN _).set kk (by omega) u, grownBy_set (grownBy_set (grownBy_set (grownBy_drewN G2.out _) _ _) _ _) _ _⟩
                case measure => simp [intOf]; omega
            · have hend : k + k2 = d.size := by omega
              have hcl := fun ty c => clear_cells wr g cap dk R2.out kk (by omega) ty c
              rw [hds] at hcl
              clear hI hR hG hdup
              go_wp2
              go_ret
              have hI := I2.out
              rw [hend] at hI
              have hlen := hI.len
              refine ⟨by rw [hlen]; rfl, Row3.sets_out _ _ _ (R2.out.pre _ (by simp [hlen]; omega) (fun j hj => ?_)) (by simp [hlen]), grownBy_sets _ _ _ G2.out⟩
              have hj' : j < kk := by simpa [hlen] using hj
              have := hI.low j hj'
              rw [getElem!_def, List.getElem?_toArray, this]
        · go_wp2
          go_roundw
          case rel =>
            refine ⟨k + 1, _, by omega, by omega, by go_num, rfl, fun j hj => ?_⟩
            by_cases e : j = k
            · subst e
              exact keeps_pos (by rw [B.out.1, ← KM.out, B.out.2]; exact hdup)
            · exact A.out j (by omega)
          case measure => simp [intOf]; omega
      · have : k = d.size := by omega
        subst this
        go_wp2
        go_ret
        rw [comp_all hall]
        exact ⟨by simp, HR.out.drewN q, grownBy_drewN (grownBy_refl _ _) q⟩
end Go.Proofs.YtaeenefdbahfoaaDoor
