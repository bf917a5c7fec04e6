/- Parts of the proof (FlatShift), merged out of our texts by wip/tools/pack.py: LaySort, Comp, Beside, Pure3, AroundP, XNext, XOf, HEq, HCell1. -/
import Derived.Shelf.SlGeneric
import Derived.Shelf.SlSortCmp.NoneTotal
import Derived.Test.YtaeenefdbahfoaaDoorProg
import Derived.Test.YtaeenefdbahfoaaDoorKFlatShift1
import Derived.Lib.SlicesCompact
import Derived.Test.YtaeenefdbahfoaaDoorKFlatShift2
namespace Go.Proofs
open Go.Shelf
def Tryd.sortCell_ren : Go.Shelf.Ren := ⟨fun | 6 => 74 | 15 => 99 | 14 => 98 | 28 => 119 | 29 => 120 | 20 => 111 | 21 => 112 | 22 => 113 | 23 => 114 | 24 => 115 | 25 => 116 | 26 => 117 | 27 => 118 | 46 => 129 | 47 => 130 | 48 => 131 | 49 => 132 | 50 => 133 | 57 => 134 | n => n, fun | 22 => 34 | 24 => 65 | 25 => 125 | 3 => 3 | 39 => 158 | 0 => 0 | 53 => 186 | 55 => 22 | 4 => 4 | 46 => 180 | 45 => 179 | 50 => 93 | 5 => 5 | 9 => 9 | 66 => 204 | 70 => 208 | 76 => 210 | 77 => 91 | n => n, fun | n => n⟩
theorem Tryd.sortCell : Go.Proofs.SlLaysF0.n6 Tryd.prog Tryd.sortCell_ren := {
  mixed := by kernel_rfl
  f6 := ⟨Tryd.f74.name, by decide, Tryd.func74.trans (congrArg some (by kernel_rfl))⟩
  f14 := ⟨Tryd.f98.name, by decide, Tryd.func98.trans (congrArg some (by kernel_rfl))⟩
  f15 := Tryd.func99.trans (congrArg some (by kernel_rfl))
  f20 := ⟨Tryd.f111.name, by decide, Tryd.func111.trans (congrArg some (by kernel_rfl))⟩
  f21 := ⟨Tryd.f112.name, by decide, Tryd.func112.trans (congrArg some (by kernel_rfl))⟩
  f22 := ⟨Tryd.f113.name, by decide, Tryd.func113.trans (congrArg some (by kernel_rfl))⟩
  f23 := ⟨Tryd.f114.name, by decide, Tryd.func114.trans (congrArg some (by kernel_rfl))⟩
  f24 := ⟨Tryd.f115.name, by decide, Tryd.func115.trans (congrArg some (by kernel_rfl))⟩
  f25 := ⟨Tryd.f116.name, by decide, Tryd.func116.trans (congrArg some (by kernel_rfl))⟩
  f26 := ⟨Tryd.f117.name, by decide, Tryd.func117.trans (congrArg some (by kernel_rfl))⟩
  f27 := ⟨Tryd.f118.name, by decide, Tryd.func118.trans (congrArg some (by kernel_rfl))⟩
  f28 := Tryd.func119.trans (congrArg some (by kernel_rfl))
  f29 := Tryd.func120.trans (congrArg some (by kernel_rfl))
  f46 := ⟨Tryd.f129.name, by decide, Tryd.func129.trans (congrArg some (by kernel_rfl))⟩
  f47 := Tryd.func130.trans (congrArg some (by kernel_rfl))
  f48 := Tryd.func131.trans (congrArg some (by kernel_rfl))
  f49 := ⟨Tryd.f132.name, by decide, Tryd.func132.trans (congrArg some (by kernel_rfl))⟩
  f50 := ⟨Tryd.f133.name, by decide, Tryd.func133.trans (congrArg some (by kernel_rfl))⟩
  f57 := ⟨Tryd.f134.name, by decide, Tryd.func134.trans (congrArg some (by kernel_rfl))⟩
  t0 := Tryd.underlying0
  a0 := Tryd.isAgg0
  z0 := Tryd.sizeOf0
  v0 := Tryd.zeroValue0
  t3 := Tryd.underlying3
  a3 := Tryd.isAgg3
  z3 := Tryd.sizeOf3
  v3 := Tryd.zeroValue3
  t4 := Tryd.underlying4
  a4 := Tryd.isAgg4
  z4 := Tryd.sizeOf4
  v4 := Tryd.zeroValue4
  t5 := Tryd.underlying5
  a5 := Tryd.isAgg5
  z5 := Tryd.sizeOf5
  v5 := Tryd.zeroValue5
  t9 := Tryd.underlying9
  a9 := Tryd.isAgg9
  z9 := Tryd.sizeOf9
  v9 := Tryd.zeroValue9
  t22 := Tryd.underlying34
  a22 := Tryd.isAgg34
  z22 := Tryd.sizeOf34
  v22 := Tryd.zeroValue34
  t25 := Tryd.underlying125
  a25 := Tryd.isAgg125
  z25 := Tryd.sizeOf125
  v25 := Tryd.zeroValue125
  t39 := Tryd.underlying158
  a39 := Tryd.isAgg158
  z39 := Tryd.sizeOf158
  v39 := Tryd.zeroValue158
  t45 := Tryd.underlying179
  a45 := Tryd.isAgg179
  z45 := Tryd.sizeOf179
  v45 := Tryd.zeroValue179
  t46 := Tryd.underlying180
  a46 := Tryd.isAgg180
  z46 := Tryd.sizeOf180
  v46 := Tryd.zeroValue180
  t50 := Tryd.underlying93
  a50 := Tryd.isAgg93
  z50 := Tryd.sizeOf93
  v50 := Tryd.zeroValue93
  t53 := Tryd.underlying186
  a53 := Tryd.isAgg186
  z53 := Tryd.sizeOf186
  v53 := Tryd.zeroValue186
  t55 := Tryd.underlying22
  a55 := Tryd.isAgg22
  z55 := Tryd.sizeOf22
  v55 := Tryd.zeroValue22
  t66 := Tryd.underlying204
  a66 := Tryd.isAgg204
  z66 := Tryd.sizeOf204
  v66 := Tryd.zeroValue204
  t70 := Tryd.underlying208
  a70 := Tryd.isAgg208
  z70 := Tryd.sizeOf208
  v70 := Tryd.zeroValue208
  t76 := Tryd.underlying210
  a76 := Tryd.isAgg210
  z76 := Tryd.sizeOf210
  v76 := Tryd.zeroValue210
  t77 := Tryd.underlying91
  a77 := Tryd.isAgg91
  z77 := Tryd.sizeOf91
  v77 := Tryd.zeroValue91 }
end Go.Proofs
namespace Go.Proofs.YtaeenefdbahfoaaDoor
open Go.RowKit Go.Proofs.YtaeenefdbahfoaaDoorW.PrintWords Go.Proofs.YtaeenefdbahfoaaDoorW.PrintLast Go.Proofs.YtaeenefdbahfoaaDoorW.PrintMore
open H
open Go.Shelf Go.RowKit Go.Lib Go.Sort
theorem sort_any (w : World) (g cap : Nat) (xs : List S65) (h : Row3 w g cap xs.toArray) (hsz : xs.length < 4611686018427387904) :
    Calls Tryd.prog 74 #[.slice (some ⟨g, 0, none⟩) xs.length cap, .func (.func 75) #[] #[]] w fun e w' => e = .returned (.tuple #[]) ∧ Row3 w' g cap (sortCells xs).toArray ∧ w.grownBy w' (some g) := by
  have eg : ∀ args w, (callFunc 75 args).run Tryd.prog w = .ok (.enter 75 args) w := enters_of Tryd.func75 (by kernel_rfl) rfl
  have hcmp : CmpLays Tryd.prog 75 #[] encCell 3 cmpCell g 0 xs.toArray.size w := fun _ _ _ _ x y => compare_any x y _
  have hcon := AnyQ.slices_SortFunc_total Tryd.sortCell 3 Tryd.isAgg65 Tryd.sizeOf65 encCell (fun _ => rfl) (fun x v hv => by simp [encCell] at hv; rcases hv with rfl | rfl | rfl <;> rfl) cmpCell swo_cell 75 #[] g 0 cap xs.toArray w eg hcmp (holds_row h) h.lt (by simpa using hsz) tot_cell
  refine Calls.mono hcon ?_
  rintro e w' ⟨rfl, n, os, rfl⟩
  exact ⟨rfl, row_sorted h (by simp [List.length_mergeSort])⟩
theorem sort_none (w : World) (v : Value) : Calls Tryd.prog 74 #[.slice none 0 0, v] w fun e w' => e = .returned (.tuple #[]) ∧ w' = w :=
  AnyF.slices_SortFunc_none Tryd.sortCell none 0 v w
theorem grownBy_refl (w : World) (g : Nat) : w.grownBy w (some g) := ⟨rfl, rfl, rfl, Nat.le_refl _, fun _ _ _ => rfl⟩
theorem grownBy_set {w W : World} {g : Nat} (h : w.grownBy W (some g)) (o : Nat) (v : Value) : w.grownBy (W.setCell ⟨g, o, none⟩ v) (some g) :=
  ⟨h.os, h.tape, h.output, by simpa using h.size, fun k hk hne => (Below.heap_setCell W ⟨g, o, none⟩ v k (fun e => hne (by rw [e]))).trans (h.block k hk hne)⟩
theorem grownBy_drewN {w W : World} {g : Nat} (h : w.grownBy W (some g)) (n : Nat) : w.grownBy (W.drewN n) (some g) := ⟨h.os, h.tape, h.output, h.size, h.block⟩
theorem grownBy_sets {w : World} {g : Nat} : ∀ (vs : List Value) (o : Nat) (W : World), w.grownBy W (some g) → w.grownBy (W.setCells g o vs) (some g)
  | [], _, _, h => h
  | v :: r, o, _, h => grownBy_sets r (o + 1) _ (grownBy_set h o v)
section
variable {w : World} {g cap : Nat} {d : Array S65}
theorem Row3.set_out (h : Row3 w g cap d) (o : Nat) (ho : d.size * 3 ≤ o) (v : Value) : Row3 (w.setCell ⟨g, o, none⟩ v) g cap d := by
  obtain ⟨cur, hb, hs, hc⟩ := h.blk
  refine ⟨h.le, h.max, _, blk_set hb _ _, by simp [hs], fun j hj => ?_⟩
  obtain ⟨c0, c1, c2⟩ := hc j hj
  refine ⟨?_, ?_, ?_⟩ <;> (rw [Array.getElem?_setIfInBounds, if_neg (by omega)]; assumption)
theorem Row3.sets_out : ∀ (vs : List Value) (o : Nat) (w : World), Row3 w g cap d → d.size * 3 ≤ o → Row3 (w.setCells g o vs) g cap d
  | [], _, _, h, _ => h
  | v :: r, o, _, h, ho => Row3.sets_out r (o + 1) _ (h.set_out o ho v) (by omega)
theorem Row3.pre (h : Row3 w g cap d) (d' : Array S65) (hs : d'.size ≤ d.size) (hd : ∀ j, j < d'.size → d'[j]! = d[j]!) : Row3 w g cap d' := by
  obtain ⟨cur, hb, hcs, hc⟩ := h.blk
  exact ⟨Nat.le_trans hs h.le, h.max, cur, hb, hcs, fun j hj => by rw [hd j hj]; exact hc j (by omega)⟩
theorem Row3.drew (h : Row3 w g cap d) : Row3 w.drew g cap d := ⟨h.le, h.max, h.blk⟩
theorem Row3.drewN (h : Row3 w g cap d) (n : Nat) : Row3 (w.drewN n) g cap d := ⟨h.le, h.max, h.blk⟩
end
theorem clear_cells (w : World) (g cap : Nat) (d : Array S65) (h : Row3 w g cap d) (k : Nat) (hk : k < d.size) (ty : TypeId) (c : Nat) :
    (Builtin.clear_ #[34] ty #[.slice (some ⟨g, k * 3, none⟩) (d.size - k) c]).run Tryd.prog w = .ok (.tuple #[]) (w.setCells g (k * 3) (List.replicate ((d.size - k) * 3) (.int .i64 0))) := by
  have hle := h.le
  have hz : (Builtin.zeroCells #[Value.int .i64 0, .int .i64 0, .int .i64 0] (d.size - k)).toList = List.replicate ((d.size - k) * 3) (.int .i64 0) := by
    simp only [Builtin.zeroCells, Array.toList_map, Array.toList_range, List.size_toArray]
    apply List.ext_getElem
    · simp
    · intro i h1 h2
      have : i % 3 = 0 ∨ i % 3 = 1 ∨ i % 3 = 2 := by omega
      rcases this with e | e | e <;> simp [e]
  have hcell : ∀ j, j < d.size * 3 → (w.cell? ⟨g, j, none⟩).isSome = true := fun j hj => by
    obtain ⟨c0, c1, c2⟩ := h.cell (j / 3) (by omega)
    have : j = j / 3 * 3 ∨ j = j / 3 * 3 + 1 ∨ j = j / 3 * 3 + 2 := by omega
    rcases this with e | e | e <;> (rw [e]; simp [c0, c1, c2])
  have hst := run_storeCells_cells (P := Tryd.prog) g (k * 3) (List.replicate ((d.size - k) * 3) (.int .i64 0)) 0 w (fun j hj => hcell _ (by simp at hj; omega)) (fun j hj => h.frozen _) (by intro v hv; rw [List.eq_of_mem_replicate hv]; rfl)
  simp only [Nat.add_zero] at hst
  obtain ⟨m, hm⟩ : ∃ m, d.size - k = m + 1 := ⟨d.size - k - 1, by omega⟩
  rw [hm] at hz hst ⊢
  have hv : ∀ w, (zeroValue 65).run Tryd.prog w = .ok (.agg #[.int .i64 0, .int .i64 0, .int .i64 0]) w := Tryd.zeroValue65
  simp [Builtin.clear_, run_underlying Tryd.underlying34, hv, Value.cells, hz, hst]
theorem eqPt (d : Nat) (w : World) (x0 y0 : Int) (x1 y1 : Int) :
    (Op.equalIn (d + 2) 63 (.agg #[.int .i64 x0, .int .i64 x1]) (.agg #[.int .i64 y0, .int .i64 y1])).run Tryd.prog w = .ok (x0 == y0 && (x1 == y1)) w := by
  refine eqA_of Tryd.underlying63 (by kernel_rfl) ?_
  refine eqf_cons (by rfl) (by go_simp; rfl) (by go_simp; rfl) (by go_simp) ?_
  exact eqf_last (by rfl) (by go_simp; rfl) (by go_simp; rfl) (by go_simp)
theorem eqCell (d : Nat) (w : World) (x0 y0 : Int) (x1 y1 : Int) (x2 y2 : Int) :
    (Op.equalIn (d + 3) 65 (.agg #[.int .i64 x0, .int .i64 x1, .int .i64 x2]) (.agg #[.int .i64 y0, .int .i64 y1, .int .i64 y2])).run Tryd.prog w = .ok ((x0 == y0 && (x1 == y1)) && (x2 == y2)) w := by
  refine eqA_of Tryd.underlying65 (by kernel_rfl) ?_
  refine eqf_cons (by rfl) (by go_simp) (by go_simp) (eqPt (d + 0) w _ _ _ _) ?_
  exact eqf_last (by rfl) (by go_simp; rfl) (by go_simp; rfl) (by go_simp)
/-- two cells' sameness, at cells that are whole -/
theorem eqCells (d : Nat) (w : World) (x y : S65) :
    (Op.equalIn (d + 3) 65 (.agg #[.int .i64 x.f0.f0, .int .i64 x.f0.f1, .int .i64 x.f1]) (.agg #[.int .i64 y.f0.f0, .int .i64 y.f0.f1, .int .i64 y.f1])).run Tryd.prog w = .ok (decide (x = y)) w := by
  rw [eqCell]
  congr 1
  obtain ⟨⟨a, b⟩, h⟩ := x
  obtain ⟨⟨c, d⟩, k⟩ := y
  rw [Bool.eq_iff_iff]
  simp [S65.mk.injEq, S63.mk.injEq]
attribute [local go_sem high] eqCells
theorem comp_all {d : Array S65} (h : ∀ j, j < d.size → keeps d j = true) : compactUpTo d d.size = d.toList := by
  rw [compactUpTo_all d _ h, range_map_get]
set_option maxHeartbeats 4000000 in
set_option maxRecDepth 100000 in
theorem compact_any (w : World) (g cap : Nat) (d : Array S65) (h : Row3 w g cap d) (hsz : d.size < 4611686018427387904) :
    Calls Tryd.prog 76 #[.slice (some ⟨g, 0, none⟩) d.size cap] w fun e w' => e = .returned (.slice (some ⟨g, 0, none⟩) (compactUpTo d d.size).length cap) ∧ Row3 w' g cap (compactUpTo d d.size).toArray ∧ w.grownBy w' (some g) := by
  have hle := h.le
  have hmx : cap ≤ 9223372036854775807 := h.max
  have HR := Aside0.mk h
  clear h
  by_cases h2 : d.size < 2
  · go_enter Tryd.func76, Tryd.ntmps76
    go_wp2
    go_ret
    have e := comp_all (d := d) (fun j hj => keeps_lt_one d j (by omega))
    rw [e]
    exact ⟨by simp, HR.out, grownBy_refl _ _⟩
  · go_enter Tryd.func76, Tryd.ntmps76
    go_wp2
    go_loopw [3] (fun s3 wr => ∃ k q : Nat, 1 ≤ k ∧ k ≤ d.size ∧ s3 = .int .i64 k ∧ wr = w.drewN q ∧ ∀ j, j < k → keeps d j = true) (fun s3 _ => d.size - (intOf s3).toNat)
    case atStart => exact ⟨1, 0, Nat.le_refl _, by omega, rfl, rfl, keeps_lt_one d⟩
    case round =>
      obtain ⟨k, q, hk1, hk, rfl, rfl, hall⟩ := hrel
      by_cases hlt : k < d.size
      · have A := Aside0.mk hall
        clear hall
        obtain ⟨a0, a1, a2⟩ := HR.out.cell k hlt
        obtain ⟨km, hkm⟩ : ∃ km, km = k - 1 := ⟨_, rfl⟩
        have hkm' : km < d.size := by omega
        obtain ⟨b0, b1, b2⟩ := HR.out.cell km hkm'
        generalize hx : d[k]! = x at a0 a1 a2
        generalize hy : d[km]! = y at b0 b1 b2
        have B := Aside0.mk (And.intro hx hy)
        clear hx hy
        have hw : IntKind.i64.wrap ((k : Int) - 1) = (km : Int) := by rw [IntKind.wrap_i64]; omega
        have KM := Aside0.mk hkm
        clear hkm
        go_wp2_with fail
        go_quiet (fail)
        by_cases hdup : x = y
        · have DUP := Aside0.mk hdup
          go_wp2_with fail
          clear a0 a1 a2 b0 b1 b2 hw
          go_loopw [3, 5] (fun s3 s5 wr => ∃ (kk k2 : Nat) (dk : Array S65), s3 = .int .i64 kk ∧ s5 = .int .i64 k2 ∧ 1 ≤ k2 ∧ k + k2 ≤ d.size ∧ CompInv d (k + k2) kk dk ∧ Row3 wr g cap dk ∧ w.grownBy wr (some g)) (fun _ s5 _ => d.size - (intOf s5).toNat)
          case atStart => exact ⟨k, 1, d, rfl, rfl, Nat.le_refl _, by omega, CompInv.start A.out (keeps_neg (by omega) (by rw [B.out.1, ← KM.out, B.out.2]; exact DUP.out)), HR.out.drewN _, grownBy_drewN (grownBy_refl _ _) _⟩
          case round =>
            obtain ⟨kk, k2, dk, rfl, rfl, h1, hle2, hI, hR, hG⟩ := hrel
            have hkk := hI.lt
            have hds := hI.size
            have I2 := Aside0.mk hI
            have R2 := Aside0.mk hR
            have G2 := Aside0.mk hG
            by_cases hlt2 : k + k2 < d.size
            · obtain ⟨km2, hkm2⟩ : ∃ km, km = k2 - 1 := ⟨_, rfl⟩
              obtain ⟨a0, a1, a2⟩ := hR.cell (k + k2) (by omega)
              obtain ⟨b0, b1, b2⟩ := hR.cell (k + km2) (by omega)
              have f0 := hR.frozen
              have hkb : kk < d.size := by omega
              obtain ⟨c0, c1, c2⟩ := hR.cell kk (by omega)
              have hkm2' : km2 < d.size - k := by omega
              have hk2' : k2 < d.size - k := by omega
              have hw : IntKind.i64.wrap ((k2 : Int) - 1) = (km2 : Int) := by rw [IntKind.wrap_i64]; omega
              rw [hI.high (k + k2) (by omega), show (k + k2) * 3 = k * 3 + k2 * 3 by omega] at a0 a1 a2
              rw [hI.high (k + km2) (by omega), show (k + km2) * 3 = k * 3 + km2 * 3 by omega] at b0 b1 b2
              clear hI hR hG
              generalize hu : d[k + k2]! = u at a0 a1 a2
              generalize hv : d[k + km2]! = v at b0 b1 b2
              generalize dk[kk]! = old at c0 c1 c2
              have C := Aside0.mk (And.intro hu hv)
              have KM2 := Aside0.mk hkm2
              clear hu hv hkm2 hdup
              go_wp2_with fail
              go_quiet (fail)
              by_cases huv : u = v
              · rw [show decide (u = v) = true from by simp [huv]]
                go_wp2_with fail
                go_roundw
                case rel => exact ⟨kk, k2 + 1, dk, rfl, by go_num, by omega, by omega, I2.out.skip (keeps_neg (by omega) (by rw [C.out.1, show k + k2 - 1 = k + km2 by have := KM2.out; omega, C.out.2]; exact huv)), R2.out.drewN _, grownBy_drewN G2.out _⟩
                case measure => simp [intOf]; omega
              · rw [show decide (u = v) = false from by simp [huv]]
                go_wp2_with fail
                go_roundw
                case rel => exact ⟨kk + 1, k2 + 1, dk.setIfInBounds kk u, by go_num, by go_num, by omega, by omega, by have := I2.out.keep hlt2 (keeps_pos (by rw [C.out.1, show k + k2 - 1 = k + km2 by have := KM2.out; omega, C.out.2]; exact huv)); rwa [C.out.1] at this, (R2.out.drewN _).set kk (by omega) u, grownBy_set (grownBy_set (grownBy_set (grownBy_drewN G2.out _) _ _) _ _) _ _⟩
                case measure => simp [intOf]; omega
            · have hend : k + k2 = d.size := by omega
              have hcl := fun ty c => clear_cells wr g cap dk R2.out kk (by omega) ty c
              rw [hds] at hcl
              clear hI hR hG hdup
              go_wp2
              go_ret
              have hI := I2.out
              rw [hend] at hI
              have hlen := hI.len
              refine ⟨by rw [hlen]; rfl, Row3.sets_out _ _ _ (R2.out.pre _ (by simp [hlen]; omega) (fun j hj => ?_)) (by simp [hlen]), grownBy_sets _ _ _ G2.out⟩
              have hj' : j < kk := by simpa [hlen] using hj
              have := hI.low j hj'
              rw [getElem!_def, List.getElem?_toArray, this]
        · go_wp2
          go_roundw
          case rel =>
            refine ⟨k + 1, _, by omega, by omega, by go_num, rfl, fun j hj => ?_⟩
            by_cases e : j = k
            · subst e
              exact keeps_pos (by rw [B.out.1, ← KM.out, B.out.2]; exact hdup)
            · exact A.out j (by omega)
          case measure => simp [intOf]; omega
      · have : k = d.size := by omega
        subst this
        go_wp2
        go_ret
        rw [comp_all hall]
        exact ⟨by simp, HR.out.drewN q, grownBy_drewN (grownBy_refl _ _) q⟩
end Go.Proofs.YtaeenefdbahfoaaDoor
namespace Go.Proofs.YtaeenefdbahfoaaDoor
open Go.RowKit Go.Proofs.YtaeenefdbahfoaaDoorW.PrintWords Go.Proofs.YtaeenefdbahfoaaDoorW.PrintLast Go.Proofs.YtaeenefdbahfoaaDoorW.PrintMore
open H
open Go.Shelf Go.RowKit Go.Lib Go.Sort
def nearL (l a b h : Int) : List S65 := if l = 1 then hexL a b 6 else if l = 2 then edgeL a b h 3 else vertL a b h 3
theorem near_any (l a b h : Int) (w : World) (hG : Six w) (hg : goodP a b) (hh0 : 0 ≤ h) (hh1 : h ≤ 1) :
    Calls Tryd.prog 106 #[.int .i64 l, .agg #[.int .i64 a, .int .i64 b, .int .i64 h]] w fun e w' => ∃ v : Value, e = .returned v ∧ Kd.R k65 65 w' w.heap.size (fun _ => True) v (nearL l a b h) ∧ Below w.heap.size w w' := by
  obtain ⟨g1, g2, g3, g4⟩ := hg
  unfold nearL
  by_cases h1 : l = 1
  · subst h1
    exact near_hex a b h w hG (by omega) (by omega) (by omega) (by omega)
  · rw [if_neg h1]
    by_cases h2 : l = 2
    · subst h2
      exact near_edge a b h w (by omega) (by omega) (by omega) (by omega) hh0 hh1
    · rw [if_neg h2]
      exact near_vert l a b h w h1 h2 (by omega) (by omega) (by omega) (by omega)
theorem near_ne (l a b h : Int) : nearL l a b h ≠ [] := by
  unfold nearL
  split
  · simp [hexL, sixP]
  · split
    · simp [edgeL, edgeP]
    · unfold vertL cornP
      split <;> simp [aroundL]
theorem near_len (l a b h : Int) : (nearL l a b h).length ≤ 18 := by
  unfold nearL
  split
  · simp [hexL, sixP]
  · split
    · simp [edgeL, edgeP]
    · exact vertL_len a b h 3
theorem near_row (l a b h : Int) (w : World) (hG : Six w) (hg : goodP a b) (hh0 : 0 ≤ h) (hh1 : h ≤ 1) :
    Calls Tryd.prog 106 #[.int .i64 l, .agg #[.int .i64 a, .int .i64 b, .int .i64 h]] w fun e w' => ∃ g cap : Nat, e = .returned (.slice (some ⟨g, 0, none⟩) (nearL l a b h).length cap) ∧ (nearL l a b h).length ≤ cap ∧ w.heap.size ≤ g ∧ Row3 w' g cap (nearL l a b h).toArray ∧ Below w.heap.size w w' := by
  refine (near_any l a b h w hG hg hh0 hh1).mono ?_
  rintro e w' ⟨v, rfl, hR, hB⟩
  rcases row_of_R hR with ⟨_, h0⟩ | ⟨g, cap, rfl, hb, _, hrow⟩
  · exact absurd h0 (near_ne l a b h)
  · exact ⟨g, cap, rfl, by simpa using hrow.le, hb, hrow, hB⟩
/-- those beside a cell: all that are near but itself, rising, each once -/
def farL (l a b h : Int) : List S65 := (nearL l a b h).filter fun x => !decide (x = ⟨⟨a, b⟩, h⟩)
def besideL (l a b h : Int) : List S65 := compactUpTo (sortCells (farL l a b h)).toArray (sortCells (farL l a b h)).toArray.size
def allGood (xs : List S65) : Prop := ∀ x ∈ xs, goodP x.f0.f0 x.f0.f1
def besideV (w' : World) (base : Nat) (e : Ending) (xs : List S65) : Prop := (allGood xs ∧ ∃ v, e = .returned (.tuple #[v, .nilIface]) ∧ Kd.R k65 65 w' base (fun _ => True) v xs) ∨ (¬ allGood xs ∧ e = .returned (.tuple #[.slice none 0 0, errW (some 6)]))
attribute [local go_sem high] eqCells
set_option maxRecDepth 100000 in
set_option maxHeartbeats 4000000 in
theorem beside_ok (l a b h : Int) (w : World) (hG : Six w) (hc : checkR l a b h = none) (hg : goodP a b) (hh0 : 0 ≤ h) (hh1 : h ≤ 1) (hne : farL l a b h ≠ []) :
    Calls Tryd.prog 89 #[.int .i64 l, .agg #[.int .i64 a, .int .i64 b, .int .i64 h]] w fun e w' => besideV w' w.heap.size e (besideL l a b h) ∧ Below w.heap.size w w' := by
  have hck := fun W => check_any l a b h W
  simp only [hc, errW_none] at hck
  obtain ⟨c, hcdef⟩ : ∃ c : S65, c = ⟨⟨a, b⟩, h⟩ := ⟨_, rfl⟩
  have hca : a = c.f0.f0 := by rw [hcdef]
  have hcb : b = c.f0.f1 := by rw [hcdef]
  have hch : h = c.f1 := by rw [hcdef]
  have hnr := fun W hW => near_row l a b h W hW hg hh0 hh1
  obtain ⟨L, hL⟩ : ∃ L, L = nearL l a b h := ⟨_, rfl⟩
  have hLn : L ≠ [] := by rw [hL]; exact near_ne l a b h
  have hLl : L.length ≤ 18 := by rw [hL]; exact near_len l a b h
  have hF : farL l a b h = L.filter fun x => !decide (x = c) := by rw [hL, hcdef]; rfl
  unfold besideL
  rw [hF] at hne ⊢
  obtain ⟨F, hFd⟩ : ∃ F, F = L.filter fun x => !decide (x = c) := ⟨_, rfl⟩
  rw [← hFd] at hne ⊢
  obtain ⟨X, hXd⟩ : ∃ X, X = compactUpTo (sortCells F).toArray (sortCells F).toArray.size := ⟨_, rfl⟩
  rw [← hXd]
  have HFD := Aside0.mk hFd
  have HXD := Aside0.mk hXd
  clear hFd hXd
  rw [← hL] at hnr
  rw [hca, hcb, hch] at hck hnr ⊢
  clear hca hcb hch hc hg hh0 hh1 hF hL hcdef
  go_enter Tryd.func89, Tryd.ntmps89
  go_wp2_with fail
  obtain ⟨w1, hw1, hcc, hsz, hB1⟩ := one_new w #[.int .i64 c.f0.f0, .int .i64 c.f0.f1, .int .i64 c.f1] 65
  rw [← hw1]
  clear hw1
  have hG1 := hG.below hB1
  have HB1 := Aside0.mk hB1
  clear hB1
  have d0 : w1.cell? ⟨w.heap.size, 0, none⟩ = some (.int .i64 c.f0.f0) := hcc 0 _ rfl
  have d1 : w1.cell? ⟨w.heap.size, 1, none⟩ = some (.int .i64 c.f0.f1) := hcc 1 _ rfl
  have d2 : w1.cell? ⟨w.heap.size, 2, none⟩ = some (.int .i64 c.f1) := hcc 2 _ rfl
  clear hcc
  have G1 := Aside0.mk hG1
  clear hG1 hG
  go_wp2_with (first
    | (go_at_call 81; refine (hck _).mono ?_; rintro e w2 ⟨rfl, hb2⟩
       have G2 := Aside0.mk (G1.out.below hb2)
       have d0 := pw_cell_below hb2 d0
       have d1 := pw_cell_below hb2 d1
       have d2 := pw_cell_below hb2 d2
       have HB2 := Aside0.mk hb2
       clear hb2)
    | (go_at_call 106; refine (hnr _ G2.out).mono ?_; rintro e w3 ⟨g3, c3, rfl, hlc3, hg3, hrow3, hb3⟩
       have d0 := pw_cell_below hb3 d0
       have d1 := pw_cell_below hb3 d1
       have d2 := pw_cell_below hb3 d2
       have HB3 := Aside0.mk (HB2.out.trans (hb3.mono HB2.out.size))
       have HR3 := Aside0.mk hrow3
       clear hb3 hrow3))
  have hz3 := HB3.out.size
  have hg3' := HR3.out.lt
  have C0 := Aside0.mk (And.intro d0 (And.intro d1 d2))
  clear d0 d1 d2
  go_loopw [7, 22] (fun v i wr => ∃ k : Nat, k ≤ L.length ∧ i = .int .i64 k ∧ Kd.R k65 65 wr w3.heap.size (fun _ => True) v ((L.take k).filter fun x => !decide (x = c)) ∧ Below w3.heap.size w3 wr) (fun _ i _ => L.length - (intOf i).toNat)
  case atStart => exact ⟨0, by omega, rfl, by simp; exact Kd.R_nil _ _ _ _ _, Below.refl _ _⟩
  case round =>
    obtain ⟨k, hk, rfl, hO, hB⟩ := hrel
    have HO := Aside0.mk hO
    have HB := Aside0.mk hB
    have d0 := pw_cell_below hB C0.out.1
    have d1 := pw_cell_below hB C0.out.2.1
    have d2 := pw_cell_below hB C0.out.2.2
    have hzr := hB.size
    have hzz : w.heap.size < wr.heap.size := Nat.lt_of_lt_of_le (Nat.lt_of_lt_of_le hsz hz3) hzr
    have hg3z : g3 < wr.heap.size := Nat.lt_of_lt_of_le hg3' hzr
    by_cases hlt : k < L.length
    · obtain ⟨a0, a1, a2⟩ := (HR3.out.below hB).cell k (by simpa using hlt)
      generalize hx : L.toArray[k]! = x at a0 a1 a2
      clear hO hB
      have HX := Aside0.mk hx
      clear hx
      have hlf : ((L.take k).filter fun x => !decide (x = c)).length ≤ 18 := Nat.le_trans (List.length_filter_le _ _) (by simp; omega)
      have htk : L.take (k + 1) = L.take k ++ [x] := by
        rw [List.take_add_one, List.getElem?_eq_getElem hlt]
        have : L.toArray[k]! = L[k] := by simp [hlt]
        rw [← HX.out, this]
        rfl
      have HTK := Aside0.mk htk
      clear htk
      by_cases hxc : x = c
      · go_wp2_with fail
        go_roundw
        case rel => exact ⟨k + 1, by omega, by go_num, by rw [HTK.out, List.filter_append]; simpa [hxc] using Kd.R_alloc HO.out _, below_alloc2 HB.out (by omega) _⟩
        case measure => simp [intOf]; omega
      · go_wp2_with (at_builtin; refine app1 k65 w3.heap.size (.tmp 29) (.tmp 31) 34 65 (.agg #[.int .i64 0, .int .i64 0, .int .i64 0]) 24 _ ((L.take k).filter fun x => !decide (x = c)) x [.int .i64 x.f0.f0, .int .i64 x.f0.f1, .int .i64 x.f1] _ rfl rfl Tryd.underlying34 info65 rfl (by decide) (by decide) rfl (by simp; done) rfl (k65_mkM _ _ _ _) (Kd.R_alloc HO.out _) (below_alloc2 HB.out (by omega) _) (by simp; omega) (by omega) ?_; intro v1 w4 ho4 hb4; have HO4 := Aside0.mk ho4; have HB4 := Aside0.mk hb4; clear ho4 hb4)
        go_roundw
        case rel => exact ⟨k + 1, by omega, by go_num, by rw [HTK.out, List.filter_append]; simpa [hxc] using HO4.out, HB4.out⟩
        case measure => simp [intOf]; omega
    · obtain rfl : k = L.length := by omega
      have hO2 := hO
      rw [List.take_length, ← HFD.out] at hO2
      rcases row_of_R hO2 with ⟨_, h0⟩ | ⟨g5, c5, rfl, hb5, _, hrow5⟩
      · exact absurd h0 hne
      have hlen5 : F.length ≤ 18 := by rw [HFD.out]; exact Nat.le_trans (List.length_filter_le _ _) hLl
      clear hO hO2 HO hck hnr
      have R5 := Aside0.mk hrow5
      have hsl : (sortCells F).length = F.length := List.length_mergeSort _
      have hsort := fun W hW => sort_any W g5 c5 F hW (by omega)
      have hcomp : ∀ W, Row3 W g5 c5 (sortCells F).toArray → Calls Tryd.prog 76 #[.slice (some ⟨g5, 0, none⟩) F.length c5] W fun e w' => e = .returned (.slice (some ⟨g5, 0, none⟩) X.length c5) ∧ Row3 w' g5 c5 X.toArray ∧ W.grownBy w' (some g5) := fun W hW => by
        have := compact_any W g5 c5 _ hW (by simp [hsl]; omega)
        rw [← HXD.out] at this
        rwa [show (sortCells F).toArray.size = F.length by simp [hsl]] at this
      clear hrow5
      have hXl : X.length ≤ 18 := by
        rw [HXD.out]
        unfold compactUpTo
        rw [List.length_map]
        exact Nat.le_trans (List.length_filter_le _ _) (by simp [hsl]; omega)
      go_wp2_with (first
        | (go_at_call 74; refine (hsort _ R5.out).mono ?_; rintro e w5 ⟨rfl, hr5, hgr5⟩; have R6 := Aside0.mk hr5; have GR5 := Aside0.mk hgr5; clear hr5 hgr5)
        | (go_at_call 76; refine (hcomp _ R6.out).mono ?_; rintro e w6 ⟨rfl, hr6, hgr6⟩; have R7 := Aside0.mk hr6; have GR6 := Aside0.mk hgr6; clear hr6 hgr6))
      have hB36 : Below w3.heap.size w3 w6 := pw_below_grown (pw_below_grown HB.out _ (by omega) GR5.out (fun k hk => by cases hk; exact hb5)) _ (Nat.le_trans (by omega) GR5.out.size) GR6.out (fun k hk => by cases hk; exact hb5)
      have HB36 := Aside0.mk hB36
      have hz36 := hB36.size
      clear hB36 hsort hcomp
      have hzw : w.heap.size ≤ w3.heap.size := by omega
      have hzb : w.heap.size ≤ g5 := by omega
      go_loopw [40] (fun i wq => ∃ k : Nat, k ≤ X.length ∧ i = .int .i64 k ∧ (∀ j, j < k → goodP X.toArray[j]!.f0.f0 X.toArray[j]!.f0.f1) ∧ Below w6.heap.size w6 wq) (fun i _ => X.length - (intOf i).toNat)
      case atStart => exact ⟨0, by omega, rfl, fun j hj => by omega, Below.refl _ _⟩
      case round =>
        obtain ⟨k, hk, rfl, hgood, hB⟩ := hrel
        have GD := Aside0.mk hgood
        have HBQ := Aside0.mk hB
        have hzq := hB.size
        have hg5q : g5 < wr.heap.size := (R7.out.below hB).lt
        by_cases hlt : k < X.length
        · obtain ⟨a0, a1, a2⟩ := (R7.out.below hB).cell k (by simpa using hlt)
          generalize hx : X.toArray[k]! = x at a0 a1 a2
          have HX := Aside0.mk hx
          have hga := fun W => good_any x.f0.f0 x.f0.f1 W
          clear hx hgood hB
          by_cases hgx : goodP x.f0.f0 x.f0.f1
          · rw [decide_eq_true hgx] at hga
            go_wp2_with (go_at_call 92; refine (hga _).mono ?_; rintro e w7 ⟨rfl, hb7⟩; have HB7 := Aside0.mk hb7; clear hb7)
            go_roundw
            case rel =>
              refine ⟨k + 1, by omega, by go_num, fun j hj => ?_, (below_alloc2 HBQ.out (by omega) _).trans (HB7.out.mono (by simp; omega))⟩
              rcases Nat.lt_or_ge j k with hjk | hjk
              · exact GD.out j hjk
              · obtain rfl : j = k := by omega
                rw [HX.out]
                exact hgx
            case measure => simp [intOf]; omega
          · rw [decide_eq_false hgx] at hga
            go_wp2_with (go_at_call 92; refine (hga _).mono ?_; rintro e w7 ⟨rfl, hb7⟩; have HB7 := Aside0.mk hb7; clear hb7)
            refine bodyPost_ret (v := .tuple #[.slice none 0 0, errW (some 6)]) (by simp [results, Tryd.results89, go_sem, errW_some]) rfl ⟨.inr ⟨fun hall => hgx ?_, rfl⟩, ?_⟩
            · have : x ∈ X := by
                have hxe : X.toArray[k]! = X[k] := by simp [hlt]
                rw [← HX.out, hxe]
                exact List.getElem_mem _
              exact hall x this
            · exact HB1.out.trans ((HB3.out.trans ((HB36.out.trans (((below_alloc2 HBQ.out (by omega) _).trans (HB7.out.mono (by simp; omega))).mono (by omega))).mono (by omega))).mono (by omega))
        · obtain rfl : k = X.length := by omega
          clear hB hgood
          go_wp2
          refine bodyPost_ret (v := .tuple #[.slice (some ⟨g5, 0, none⟩) X.length c5, .nilIface]) (by simp [results, Tryd.results89, go_sem]) rfl ⟨.inl ⟨fun x hx => ?_, _, rfl, R_of_row (R7.out.below HBQ.out) hzb trivial⟩, ?_⟩
          · obtain ⟨j, hj, rfl⟩ := List.getElem_of_mem hx
            have := GD.out j hj
            have hxe : X.toArray[j]! = X[j] := by simp [hj]
            rwa [hxe] at this
          · exact HB1.out.trans ((HB3.out.trans ((HB36.out.trans (HBQ.out.mono (by omega))).mono (by omega))).mono (by omega))
end Go.Proofs.YtaeenefdbahfoaaDoor
namespace Go.Proofs.YtaeenefdbahfoaaDoor
open Go.RowKit Go.Proofs.YtaeenefdbahfoaaDoorW.PrintWords Go.Proofs.YtaeenefdbahfoaaDoorW.PrintLast Go.Proofs.YtaeenefdbahfoaaDoorW.PrintMore
open H
open Go.Shelf Go.RowKit Go.Lib Go.Sort
theorem sh_inj (a b : Int) {x y : CL} (h : sh a b x = sh a b y) : x = y := by
  obtain ⟨⟨p, q⟩, r⟩ := x
  obtain ⟨⟨p', q'⟩, r'⟩ := y
  simp only [sh, S65.mk.injEq, S63.mk.injEq] at h ⊢
  omega
theorem sh_lt (a b : Int) (x y : CL) : ltOf cmpCell (sh a b x) (sh a b y) = ltOf cmpCell x y := by
  rw [lt_cell, lt_cell]
  simp only [sh]
  congr 1
  rw [eq_iff_iff]
  omega
theorem near_sh (l a b h : Int) (h0 : h = 0 ∨ h = 1) : nearL l a b h = (nearL l 0 0 h).map (sh a b) := by
  unfold nearL
  split
  · simp [hexL, sixP, sh]
  · split
    · rcases h0 with rfl | rfl <;> simp [edgeL, edgeP, sh]
    · rcases h0 with rfl | rfl
      · simp [vertL, cornP, aroundL, sh]; omega
      · simp [vertL, cornP, aroundL, sh]; omega
theorem far_sh (l a b h : Int) (h0 : h = 0 ∨ h = 1) : farL l a b h = (farL l 0 0 h).map (sh a b) := by
  unfold farL
  rw [near_sh l a b h h0, List.filter_map]
  congr 2
  funext x
  obtain ⟨⟨p, q⟩, r⟩ := x
  rw [Bool.eq_iff_iff]
  simp [sh, S65.mk.injEq, S63.mk.injEq]
  omega
theorem sort_sh (a b : Int) (xs : List CL) : sortCells (xs.map (sh a b)) = (sortCells xs).map (sh a b) := by
  unfold sortCells
  rw [List.map_mergeSort]
  intro x _ y _
  rw [sh_lt]
theorem keeps_map (f : CL → CL) (hf : ∀ x y, f x = f y → x = y) (xs : List CL) (j : Nat) (hj : j < xs.length) : keeps (xs.map f).toArray j = keeps xs.toArray j := by
  unfold keeps
  have e : ∀ i, i < xs.length → (xs.map f).toArray[i]! = f xs.toArray[i]! := fun i hi => by simp [hi]
  rw [e j hj, e (j - 1) (by omega)]
  rw [Bool.eq_iff_iff]
  simp only [decide_eq_true_eq]
  constructor
  · rintro (h | h)
    · exact .inl h
    · exact .inr fun h' => h (by rw [h'])
  · rintro (h | h)
    · exact .inl h
    · exact .inr fun h' => h (hf _ _ h')
theorem compact_map (f : CL → CL) (hf : ∀ x y, f x = f y → x = y) (xs : List CL) : compactUpTo (xs.map f).toArray (xs.map f).toArray.size = (compactUpTo xs.toArray xs.toArray.size).map f := by
  unfold compactUpTo
  simp only [List.size_toArray, List.length_map, List.map_map]
  rw [List.filter_congr (q := keeps xs.toArray) (fun j hj => keeps_map f hf xs j (by simpa using hj))]
  apply List.map_congr_left
  intro j hj
  have : j < xs.length := by simpa using (List.mem_filter.1 hj).1
  simp [this]
def offs (l h : Int) : List CL :=
  if l = 1 then [mk 0 (-1) 0, mk 1 (-1) 0, mk (-1) 0 0, mk 1 0 0, mk (-1) 1 0, mk 0 1 0]
  else if l = 2 then (if h = 0 then [mk 0 (-1) 1, mk (-1) 0 1, mk 0 0 1] else [mk 0 0 0, mk 1 0 0, mk 0 1 0])
  else if h = 0 then [mk (-1) (-1) 1, mk 0 (-1) 0, mk 0 (-1) 1, mk 1 (-1) 0, mk 1 (-1) 1, mk (-1) 0 0, mk (-1) 0 1, mk 0 0 1, mk 1 0 0, mk (-1) 1 0, mk (-1) 1 1, mk 0 1 0]
  else [mk 0 (-1) 1, mk 1 (-1) 0, mk 1 (-1) 1, mk (-1) 0 1, mk 0 0 0, mk 1 0 0, mk 1 0 1, mk (-1) 1 0, mk (-1) 1 1, mk 0 1 0, mk 0 1 1, mk 1 1 0]
theorem sort_is (xs ys : List CL) (hp : xs.Perm ys) (hs : ys.Pairwise fun x y => (!(ltOf cmpCell) y x) = true) : sortCells xs = ys := by
  have hle : ∀ x y : CL, (!(ltOf cmpCell) y x) = true → (!(ltOf cmpCell) x y) = true → x = y := fun x y h1 h2 => tot_cell x y (by simpa using h2) (by simpa using h1)
  refine List.Perm.eq_of_pairwise (le := fun x y => (!(ltOf cmpCell) y x) = true) (fun a b _ _ => hle a b) (List.pairwise_mergeSort ?_ ?_ xs) hs ((List.mergeSort_perm xs _).trans hp)
  · intro x y z h1 h2
    simp only [lt_cell, Bool.not_eq_true', decide_eq_false_iff_not] at *
    omega
  · intro x y
    simp only [lt_cell, Bool.or_eq_true, Bool.not_eq_true', decide_eq_false_iff_not]
    omega
instance (xs : List CL) : Decidable (xs.Pairwise fun x y => (!(ltOf cmpCell) y x) = true) := inferInstance
theorem base_is (l h : Int) (ys : List CL) (hp : (farL l 0 0 h).Perm ys) (hs : ys.Pairwise fun x y => (!(ltOf cmpCell) y x) = true) : besideL l 0 0 h = compactUpTo ys.toArray ys.toArray.size := by
  unfold besideL
  rw [sort_is _ ys hp hs]
/-- the sorted lists, with those that come twice -/
def dups (h : Int) : List CL := if h = 0 then [mk (-1) (-1) 1, mk 0 (-1) 0, mk 0 (-1) 1, mk 0 (-1) 1, mk 1 (-1) 0, mk 1 (-1) 1, mk (-1) 0 0, mk (-1) 0 1, mk (-1) 0 1, mk 0 0 1, mk 0 0 1, mk 1 0 0, mk (-1) 1 0, mk (-1) 1 1, mk 0 1 0]
  else [mk 0 (-1) 1, mk 1 (-1) 0, mk 1 (-1) 1, mk (-1) 0 1, mk 0 0 0, mk 0 0 0, mk 1 0 0, mk 1 0 0, mk 1 0 1, mk (-1) 1 0, mk (-1) 1 1, mk 0 1 0, mk 0 1 0, mk 0 1 1, mk 1 1 0]
theorem beside_base (l h : Int) (hl : 1 ≤ l) (hl' : l ≤ 3) (h0 : h = 0 ∨ h = 1) (h1 : l = 1 → h = 0) : besideL l 0 0 h = offs l h := by
  have : l = 1 ∨ l = 2 ∨ l = 3 := by omega
  rcases this with rfl | rfl | rfl
  · obtain rfl := h1 rfl
    rw [base_is 1 0 (offs 1 0) (by decide) (by decide)]
    decide
  · rcases h0 with rfl | rfl
    · rw [base_is 2 0 (offs 2 0) (by decide) (by decide)]; decide
    · rw [base_is 2 1 (offs 2 1) (by decide) (by decide)]; decide
  · rcases h0 with rfl | rfl
    · rw [base_is 3 0 (dups 0) (by decide) (by decide)]; decide
    · rw [base_is 3 1 (dups 1) (by decide) (by decide)]; decide
theorem beside_eq (l a b h : Int) (hl : 1 ≤ l) (hl' : l ≤ 3) (h0 : h = 0 ∨ h = 1) (h1 : l = 1 → h = 0) : besideL l a b h = (offs l h).map (sh a b) := by
  rw [← beside_base l h hl hl' h0 h1]
  unfold besideL
  rw [far_sh l a b h h0, sort_sh, compact_map _ (fun x y => sh_inj a b)]
theorem far_ne (l a b h : Int) (hl : 1 ≤ l) (hl' : l ≤ 3) (h0 : h = 0 ∨ h = 1) (h1 : l = 1 → h = 0) : farL l a b h ≠ [] := by
  intro he
  have h2 := beside_eq l a b h hl hl' h0 h1
  unfold besideL at h2
  rw [he] at h2
  have h3 : (offs l h).map (sh a b) = [] := by rw [← h2]; simp [sortCells, compactUpTo]
  unfold offs at h3
  split at h3
  · simp at h3
  · split at h3 <;> split at h3 <;> simp at h3
/-- BESIDE, at a cell that may be. -/
theorem beside_any (l a b h : Int) (w : World) (hG : Six w) (hl : 1 ≤ l) (hl' : l ≤ 3) (h0 : h = 0 ∨ h = 1) (h1 : l = 1 → h = 0) (hg : goodP a b) :
    Calls Tryd.prog 89 #[.int .i64 l, .agg #[.int .i64 a, .int .i64 b, .int .i64 h]] w fun e w' => besideV w' w.heap.size e ((offs l h).map (sh a b)) ∧ Below w.heap.size w w' := by
  have := beside_ok l a b h w hG ?_ hg (by omega) (by omega) (far_ne l a b h hl hl' h0 h1)
  · rwa [beside_eq l a b h hl hl' h0 h1] at this
  · unfold checkR
    rw [if_pos ⟨hl, hl'⟩, if_neg ?_, if_pos hg]
    rcases h0 with rfl | rfl
    · split <;> omega
    · by_cases e : l = 1
      · have := h1 e; omega
      · rw [if_neg e]; omega
end Go.Proofs.YtaeenefdbahfoaaDoor
namespace Go.Proofs.YtaeenefdbahfoaaDoor
open Go.RowKit Go.Proofs.YtaeenefdbahfoaaDoorW.PrintWords Go.Proofs.YtaeenefdbahfoaaDoorW.PrintLast Go.Proofs.YtaeenefdbahfoaaDoorW.PrintMore
open H
def triStep (M : Tot) (d : CL) : Tot := putC M d (cntC M d + 1)
def hexQ (c : CL) (k : Nat) : CL := mk (c.f0.f0 + sxA k) (c.f0.f1 + sxB k) 0
def hexStep (c : CL) (M : Tot) (k : Nat) : Tot := putC M (hexQ c k) (Go.bits .or .i64 (cntC M (hexQ c k)) (2 ^ ((k + 3) % 6)))
def besL (l : Int) (c : CL) : List CL := (offs l c.f1).map (sh c.f0.f0 c.f0.f1)
def arStep (l : Int) (M : Tot) (c : CL) : Tot := if l = 1 then (List.range 6).foldl (hexStep c) M else (besL l c).foldl triStep M
def arL (l : Int) (s : List CL) : Tot := s.foldl (arStep l) []
theorem arL_take (l : Int) (s : List CL) (i : Nat) (h : i < s.length) : arL l (s.take (i + 1)) = arStep l (arL l (s.take i)) s[i] := by
  unfold arL
  rw [List.take_add_one, List.getElem?_eq_getElem h, List.foldl_append]
  rfl
theorem foldl_take {α β : Type} (f : β → α → β) (b : β) (l : List α) (i : Nat) (h : i < l.length) : (l.take (i + 1)).foldl f b = f ((l.take i).foldl f b) l[i] := by
  rw [List.take_add_one, List.getElem?_eq_getElem h, List.foldl_append]
  rfl
theorem range_take6 (k : Nat) (h : k < 6) {β : Type} (f : β → Nat → β) (b : β) : ((List.range 6).take (k + 1)).foldl f b = f (((List.range 6).take k).foldl f b) k := by
  rw [foldl_take f b (List.range 6) k (by simpa using h)]
  simp
/-- all numbers are within bounds -/
def Bd (M : Tot) (n : Int) : Prop := ∀ p ∈ M, 0 ≤ p.2 ∧ p.2 ≤ n
theorem Bd.cnt {M : Tot} {n : Int} (h : Bd M n) (hn : 0 ≤ n) (q : CL) : 0 ≤ cntC M q ∧ cntC M q ≤ n := by
  unfold cntC
  cases hf : M.findIdx? (fun p => decide (p.1 = q)) with
  | some j =>
    obtain ⟨hj, _, _⟩ := List.findIdx?_eq_some_iff_getElem.1 hf
    simp only [List.getElem?_eq_getElem hj, Option.map_some, Option.getD_some]
    exact h _ (List.getElem_mem hj)
  | none => exact ⟨Int.le_refl _, hn⟩
theorem Bd.put {M : Tot} {n : Int} (h : Bd M n) (q : CL) (x : Int) (h0 : 0 ≤ x) (h1 : x ≤ n) : Bd (putC M q x) n := by
  unfold putC
  cases hf : M.findIdx? (fun p => decide (p.1 = q)) with
  | some j =>
    intro p hp
    rcases List.mem_or_eq_of_mem_set hp with hp | rfl
    · exact h p hp
    · exact ⟨h0, h1⟩
  | none =>
    intro p hp
    rcases List.mem_append.1 hp with hp | hp
    · exact h p hp
    · obtain rfl := List.mem_singleton.1 hp
      exact ⟨h0, h1⟩
theorem Bd.mono {M : Tot} {n m : Int} (h : Bd M n) (hnm : n ≤ m) : Bd M m := fun p hp => ⟨(h p hp).1, Int.le_trans (h p hp).2 hnm⟩
theorem Bd_nil (n : Int) : Bd [] n := fun p hp => by cases hp
theorem or63 : ∀ (x : Fin 64) (j : Fin 6), 0 ≤ Go.bits .or .i64 (x.1 : Int) ((2 : Int) ^ j.1) ∧ Go.bits .or .i64 (x.1 : Int) ((2 : Int) ^ j.1) ≤ 63 := by decide +kernel
theorem or63' (x : Int) (h0 : 0 ≤ x) (h1 : x ≤ 63) (j : Nat) (hj : j < 6) : 0 ≤ Go.bits .or .i64 x ((2 : Int) ^ j) ∧ Go.bits .or .i64 x ((2 : Int) ^ j) ≤ 63 := by
  have := or63 ⟨x.toNat, by omega⟩ ⟨j, hj⟩
  simp only [show ((x.toNat : Nat) : Int) = x from Int.toNat_of_nonneg h0] at this
  exact this
theorem tri_bd (ds : List CL) : ∀ (M : Tot) (n : Int), Bd M n → 0 ≤ n → Bd (ds.foldl triStep M) (n + ds.length) := by
  induction ds with
  | nil => intro M n h _; simpa using h
  | cons d ds ih =>
    intro M n h hn
    have hc := h.cnt hn d
    have := ih (triStep M d) (n + 1) ((h.mono (by omega)).put d _ (by omega) (by omega)) (by omega)
    simp only [List.foldl_cons, List.length_cons]
    exact this.mono (by omega)
theorem hex_bd (c : CL) (ks : List Nat) : ∀ (M : Tot), Bd M 63 → Bd (ks.foldl (hexStep c) M) 63 := by
  induction ks with
  | nil => intro M h; exact h
  | cons k ks ih =>
    intro M h
    have hc := h.cnt (by omega) (hexQ c k)
    obtain ⟨h1, h2⟩ := or63' _ hc.1 hc.2 ((k + 3) % 6) (Nat.mod_lt _ (by omega))
    exact ih _ (h.put _ _ h1 h2)
theorem ar_bd_hex (s : List CL) : ∀ (M : Tot), Bd M 63 → Bd (s.foldl (arStep 1) M) 63 := by
  induction s with
  | nil => intro M h; exact h
  | cons c s ih => intro M h; exact ih _ (hex_bd c _ M h)
theorem ar_bd_tri (l : Int) (hl : ¬ l = 1) (s : List CL) (hs : ∀ c ∈ s, (besL l c).length ≤ 12) : ∀ (M : Tot) (n : Int), Bd M n → 0 ≤ n → Bd (s.foldl (arStep l) M) (n + 12 * s.length) := by
  induction s with
  | nil => intro M n h _; simpa using h
  | cons c s ih =>
    intro M n h hn
    have h1 := tri_bd (besL l c) M n h hn
    have h2 := hs c List.mem_cons_self
    have := ih (fun d hd => hs d (List.mem_cons_of_mem _ hd)) (arStep l M c) (n + 12) (by unfold arStep; rw [if_neg hl]; exact h1.mono (by omega)) (by omega)
    simp only [List.foldl_cons, List.length_cons]
    exact this.mono (by omega)
end Go.Proofs.YtaeenefdbahfoaaDoor
namespace Go.Proofs.YtaeenefdbahfoaaDoor
open Go.RowKit Go.Proofs.YtaeenefdbahfoaaDoorW.PrintWords Go.Proofs.YtaeenefdbahfoaaDoorW.PrintLast Go.Proofs.YtaeenefdbahfoaaDoorW.PrintMore
open H
open Go.RowKit
set_option maxRecDepth 100000 in
theorem next_out (l b0 b1 s0 s1 half n : Int) (live : Bool) (w : World) (ho : half < 0 ∨ 1 < half ∨ n < 0 ∨ 63 < n) :
    Calls Tryd.prog 58 #[.agg #[.int .i64 l, .int .u64 b0, .int .u64 b1, .int .u64 s0, .int .u64 s1], .int .i64 half, .bool live, .int .i64 n] w fun e w' => e = .returned (.bool false) ∧ Below w.heap.size w w' := by
  go_enter Tryd.func58, Tryd.ntmps58
  by_cases h1 : half < 0
  · have d1 : decide (half < 0) = true := decide_eq_true h1
    go_wp2
    go_ret
    exact ⟨rfl, (by with_reducible repeat (first | apply below_alloc | apply pw_below_drewN | apply below_drew | refine bset ?_ _ _ (by omega) _ | exact Below.refl _ _))⟩
  · by_cases h2 : 1 < half
    · go_wp2
      go_ret
      exact ⟨rfl, (by with_reducible repeat (first | apply below_alloc | apply pw_below_drewN | apply below_drew | refine bset ?_ _ _ (by omega) _ | exact Below.refl _ _))⟩
    · by_cases h3 : n < 0
      · go_wp2
        go_ret
        exact ⟨rfl, (by with_reducible repeat (first | apply below_alloc | apply pw_below_drewN | apply below_drew | refine bset ?_ _ _ (by omega) _ | exact Below.refl _ _))⟩
      · have h4 : 63 < n := by omega
        go_wp2
        go_ret
        exact ⟨rfl, (by with_reducible repeat (first | apply below_alloc | apply pw_below_drewN | apply below_drew | refine bset ?_ _ _ (by omega) _ | exact Below.refl _ _))⟩
/-- the bit of a number -/
def nxB (x n : Int) : Bool := Go.bits .and .u64 (x / 2 ^ n.toNat) 1 == 1
set_option maxRecDepth 100000 in
theorem next_0true (l b0 b1 s0 s1 n : Int) (w : World) (h0 : 0 ≤ n) (h1 : n ≤ 63) :
    Calls Tryd.prog 58 #[.agg #[.int .i64 l, .int .u64 b0, .int .u64 b1, .int .u64 s0, .int .u64 s1], .int .i64 0, .bool true, .int .i64 n] w fun e w' => e = .returned (.bool (nxB s0 n)) ∧ Below w.heap.size w w' := by
  have h2 : ¬ n < 0 := by omega
  have h3 : ¬ 63 < n := by omega
  go_enter Tryd.func58, Tryd.ntmps58
  go_wp2
  go_ret
  exact ⟨rfl, (by with_reducible repeat (first | apply below_alloc | apply pw_below_drewN | apply below_drew | refine bset ?_ _ _ (by omega) _ | exact Below.refl _ _))⟩
set_option maxRecDepth 100000 in
theorem next_1true (l b0 b1 s0 s1 n : Int) (w : World) (h0 : 0 ≤ n) (h1 : n ≤ 63) :
    Calls Tryd.prog 58 #[.agg #[.int .i64 l, .int .u64 b0, .int .u64 b1, .int .u64 s0, .int .u64 s1], .int .i64 1, .bool true, .int .i64 n] w fun e w' => e = .returned (.bool (nxB s1 n)) ∧ Below w.heap.size w w' := by
  have h2 : ¬ n < 0 := by omega
  have h3 : ¬ 63 < n := by omega
  go_enter Tryd.func58, Tryd.ntmps58
  go_wp2
  go_ret
  exact ⟨rfl, (by with_reducible repeat (first | apply below_alloc | apply pw_below_drewN | apply below_drew | refine bset ?_ _ _ (by omega) _ | exact Below.refl _ _))⟩
set_option maxRecDepth 100000 in
theorem next_0false (l b0 b1 s0 s1 n : Int) (w : World) (h0 : 0 ≤ n) (h1 : n ≤ 63) :
    Calls Tryd.prog 58 #[.agg #[.int .i64 l, .int .u64 b0, .int .u64 b1, .int .u64 s0, .int .u64 s1], .int .i64 0, .bool false, .int .i64 n] w fun e w' => e = .returned (.bool (nxB b0 n)) ∧ Below w.heap.size w w' := by
  have h2 : ¬ n < 0 := by omega
  have h3 : ¬ 63 < n := by omega
  go_enter Tryd.func58, Tryd.ntmps58
  go_wp2
  go_ret
  exact ⟨rfl, (by with_reducible repeat (first | apply below_alloc | apply pw_below_drewN | apply below_drew | refine bset ?_ _ _ (by omega) _ | exact Below.refl _ _))⟩
set_option maxRecDepth 100000 in
theorem next_1false (l b0 b1 s0 s1 n : Int) (w : World) (h0 : 0 ≤ n) (h1 : n ≤ 63) :
    Calls Tryd.prog 58 #[.agg #[.int .i64 l, .int .u64 b0, .int .u64 b1, .int .u64 s0, .int .u64 s1], .int .i64 1, .bool false, .int .i64 n] w fun e w' => e = .returned (.bool (nxB b1 n)) ∧ Below w.heap.size w w' := by
  have h2 : ¬ n < 0 := by omega
  have h3 : ¬ 63 < n := by omega
  go_enter Tryd.func58, Tryd.ntmps58
  go_wp2
  go_ret
  exact ⟨rfl, (by with_reducible repeat (first | apply below_alloc | apply pw_below_drewN | apply below_drew | refine bset ?_ _ _ (by omega) _ | exact Below.refl _ _))⟩
def XNext.f (_l b0 b1 s0 s1 half : Int) (live : Bool) (n : Int) : Option Bool := some (if half < 0 ∨ 1 < half ∨ n < 0 ∨ 63 < n then false else nxB (if live = true then (if half = 0 then s0 else s1) else (if half = 0 then b0 else b1)) n)
theorem XNext.calls (a0_0 : Int) (a0_1 : Int) (a0_2 : Int) (a0_3 : Int) (a0_4 : Int) (a1 : Int) (a2 : Bool) (a3 : Int) (r : Bool) (w : World) (h : XNext.f a0_0 a0_1 a0_2 a0_3 a0_4 a1 a2 a3 = some r) :
    Calls Tryd.prog 58 #[.agg #[.int .i64 a0_0, .int .u64 a0_1, .int .u64 a0_2, .int .u64 a0_3, .int .u64 a0_4], .int .i64 a1, .bool a2, .int .i64 a3] w fun e w' => e = .returned (.bool r) ∧ Below w.heap.size w w' := by
  unfold XNext.f at h
  obtain rfl := Option.some.inj h
  by_cases ho : a1 < 0 ∨ 1 < a1 ∨ a3 < 0 ∨ 63 < a3
  · rw [if_pos ho]
    exact next_out _ _ _ _ _ _ _ _ w ho
  · rw [if_neg ho]
    have h1 : a1 = 0 ∨ a1 = 1 := by omega
    rcases h1 with rfl | rfl
    · cases a2
      · exact next_0false _ _ _ _ _ _ w (by omega) (by omega)
      · exact next_0true _ _ _ _ _ _ w (by omega) (by omega)
    · cases a2
      · exact next_1false _ _ _ _ _ _ w (by omega) (by omega)
      · exact next_1true _ _ _ _ _ _ w (by omega) (by omega)
end Go.Proofs.YtaeenefdbahfoaaDoor
namespace Go.Proofs.YtaeenefdbahfoaaDoor
open Go.RowKit Go.Proofs.YtaeenefdbahfoaaDoorW.PrintWords Go.Proofs.YtaeenefdbahfoaaDoorW.PrintLast Go.Proofs.YtaeenefdbahfoaaDoorW.PrintMore
open H
open Go.Shelf Go.RowKit Go.Lib Go.Sort
theorem R_lit (w : World) : Kd.R k65 65 (w.alloc (.cells #[] 65)) w.heap.size (fun _ => True) (.slice (some ⟨w.heap.size, 0, none⟩) 0 0) [] :=
  R_of_row (xs := []) ⟨by simp, by unfold maxLen; omega, #[], blk_new w _, rfl, fun j hj => by simp at hj⟩ (Nat.le_refl _) trivial
set_option maxRecDepth 100000 in
set_option maxHeartbeats 1000000 in
theorem clone_any (A0 : Option Addr) (c0 : Nat) (l0 : List S65) (w : World) (hr0 : Kd.C k65 w A0 l0.length l0) (hl : l0.length < 5864062014805) :
    Calls Tryd.prog 73 #[.slice A0 l0.length c0] w fun e w' => ∃ v, e = .returned v ∧ Kd.R k65 65 w' w.heap.size (fun _ => True) v l0 ∧ Below w.heap.size w w' := by
  have hq := fun W n c => Lib.run_eql_slice_nil (P := Tryd.prog) W 34 65 A0 n c 0 0 Tryd.underlying34
  have HR := Aside0.mk hr0
  clear hr0
  cases A0 with
  | none =>
    have h0 : l0 = [] := by
      have h1 := HR.out.2.2
      rcases Nat.eq_zero_or_pos l0.length with h | h
      · exact List.length_eq_zero_iff.1 h
      · obtain ⟨ad, h2, _⟩ := h1 h
        cases h2
    simp only [Option.isNone_none] at hq
    go_enter Tryd.func73, Tryd.ntmps73
    go_wp2
    go_ret
    exact ⟨_, rfl, by rw [h0]; exact Kd.R_nil _ _ _ _ _, (by with_reducible repeat (first | apply below_alloc | apply pw_below_drewN | apply below_drew | refine bset ?_ _ _ (by omega) _ | exact Below.refl _ _))⟩
  | some ad =>
    simp only [Option.isNone_some] at hq
    have hR := R_lit w
    have HL := Aside0.mk hR
    clear hR
    go_enter Tryd.func73, Tryd.ntmps73
    go_wp2_with (at_builtin; refine appN k65 w.heap.size (.tmp 5) (.tmp 6) 34 65 (.agg #[.int .i64 0, .int .i64 0, .int .i64 0]) 24 (w0 := w) _ [] l0 (some ad) c0 rfl rfl Tryd.underlying34 info65 rfl (by decide) (by decide) rfl rfl (fun x cs h => by obtain rfl := k65_open h; exact k65_mkM _ _ _ _) HL.out (Kd.C_below HR.out (below_alloc2 (Below.refl _ _) (Nat.le_refl _) _)) (below_alloc2 (Below.refl _ _) (Nat.le_refl _) _) (by simp) (by simp; omega) ?_; intro v1 w4 ho4 hb4; have HO4 := Aside0.mk ho4; have HB4 := Aside0.mk hb4; clear ho4 hb4)
    go_ret
    exact ⟨_, rfl, by simpa using HO4.out, HB4.out⟩
/-- the set of a list's cells -/
def ofL (l : List S65) : List S65 := compactUpTo (sortCells l).toArray (sortCells l).toArray.size
theorem ofL_le (l : List S65) : (ofL l).length ≤ l.length := by
  unfold ofL compactUpTo
  rw [List.length_map]
  exact Nat.le_trans (List.length_filter_le _ _) (by simp [sortCells, List.length_mergeSort])
theorem ofL_nil : ofL [] = [] := by simp [ofL, sortCells, compactUpTo]
def XOf.f (l : List S65) : Option (List S65) := if l.length < 5864062014805 then some (ofL l) else none
theorem compact_none (w : World) : Calls Tryd.prog 76 #[.slice none 0 0] w fun e w' => e = .returned (.slice none 0 0) ∧ w' = w := by
  go_enter Tryd.func76, Tryd.ntmps76
  go_wp2
  go_ret
  exact ⟨rfl, rfl⟩
set_option maxRecDepth 100000 in
set_option maxHeartbeats 1000000 in
theorem XOf.calls (A0 : Option Addr) (c0 : Nat) (l0 : List S65) (r : List S65) (w : World) (hr0 : Kd.C k65 w A0 l0.length l0) (_hc0 : l0.length ≤ c0) (h : XOf.f l0 = some r) :
    Calls Tryd.prog 37 #[.slice A0 l0.length c0] w fun e w' => ∃ v0_ : Value, e = .returned (v0_) ∧ Kd.R k65 65 w' w.heap.size (fun _ => True) v0_ r ∧ Below w.heap.size w w' := by
  have hl : l0.length < 5864062014805 := by
    by_cases h1 : l0.length < 5864062014805
    · exact h1
    · simp [XOf.f, h1] at h
  have hr : r = ofL l0 := by simpa [XOf.f, hl] using h.symm
  subst hr
  clear h
  have HR := Aside0.mk hr0
  clear hr0
  generalize hX : ofL l0 = X
  have HX := Aside0.mk hX
  clear hX
  go_enter Tryd.func37, Tryd.ntmps37
  go_wp2_with fail
  refine (clone_any A0 c0 l0 w HR.out hl).mono ?_
  rintro e w1 ⟨v, rfl, hO, hb1⟩
  rcases row_of_R hO with ⟨rfl, h0⟩ | ⟨g, cap, rfl, hg, _, hrow⟩
  · have HB1 := Aside0.mk hb1
    clear hb1 hO
    go_wp2_with (first
      | (go_at_call 74; refine (sort_none _ _).mono ?_; rintro e w2 ⟨rfl, rfl⟩)
      | (go_at_call 76; refine (compact_none _).mono ?_; rintro e w3 ⟨rfl, rfl⟩))
    go_ret
    exact ⟨_, rfl, by rw [← HX.out, h0, ofL_nil]; exact Kd.R_nil _ _ _ _ _, HB1.out⟩
  · have HB1 := Aside0.mk hb1
    have R1 := Aside0.mk hrow
    clear hb1 hO hrow
    have hsl : (sortCells l0).length = l0.length := List.length_mergeSort _
    have hsort := fun W hW => sort_any W g cap l0 hW (by omega)
    have hcomp : ∀ W, Row3 W g cap (sortCells l0).toArray → Calls Tryd.prog 76 #[.slice (some ⟨g, 0, none⟩) l0.length cap] W fun e w' => e = .returned (.slice (some ⟨g, 0, none⟩) (ofL l0).length cap) ∧ Row3 w' g cap (ofL l0).toArray ∧ W.grownBy w' (some g) := fun W hW => by
      have := compact_any W g cap _ hW (by simp [hsl]; omega)
      change Calls _ _ _ _ fun e w' => e = .returned (.slice (some ⟨g, 0, none⟩) (ofL l0).length cap) ∧ Row3 w' g cap (ofL l0).toArray ∧ W.grownBy w' (some g) at this
      rwa [show (sortCells l0).toArray.size = l0.length by simp [hsl]] at this
    rw [HX.out] at hcomp
    go_wp2_with (first
      | (go_at_call 74; refine (hsort _ R1.out).mono ?_; rintro e w5 ⟨rfl, hr5, hgr5⟩; have R6 := Aside0.mk hr5; have GR5 := Aside0.mk hgr5; clear hr5 hgr5)
      | (go_at_call 76; refine (hcomp _ R6.out).mono ?_; rintro e w6 ⟨rfl, hr6, hgr6⟩; have R7 := Aside0.mk hr6; have GR6 := Aside0.mk hgr6; clear hr6 hgr6))
    have hz := HB1.out.size
    have hB36 : Below w.heap.size w w6 := pw_below_grown (pw_below_grown HB1.out _ (by omega) GR5.out (fun k hk => by cases hk; exact hg)) _ (Nat.le_trans (by omega) GR5.out.size) GR6.out (fun k hk => by cases hk; exact hg)
    have HB36 := Aside0.mk hB36
    clear hB36
    go_ret
    exact ⟨_, rfl, R_of_row R7.out hg trivial, HB36.out⟩
def XClone.f (l : List S65) : Option (List S65) := if l.length < 5864062014805 then some l else none
theorem XClone.calls (A0 : Option Addr) (c0 : Nat) (l0 : List S65) (r : List S65) (w : World) (hr0 : Kd.C k65 w A0 l0.length l0) (_hc0 : l0.length ≤ c0) (h : XClone.f l0 = some r) :
    Calls Tryd.prog 73 #[.slice A0 l0.length c0] w fun e w' => ∃ v0_ : Value, e = .returned (v0_) ∧ Kd.R k65 65 w' w.heap.size (fun _ => True) v0_ r ∧ Below w.heap.size w w' := by
  unfold XClone.f at h
  by_cases hl : l0.length < 5864062014805
  · rw [if_pos hl] at h
    obtain rfl := Option.some.inj h
    exact clone_any A0 c0 l0 w hr0 hl
  · rw [if_neg hl] at h
    cases h
end Go.Proofs.YtaeenefdbahfoaaDoor
namespace Go.Proofs.YtaeenefdbahfoaaDoor.H
open Go.RowKit Go.Proofs.YtaeenefdbahfoaaDoorW.PrintWords Go.Proofs.YtaeenefdbahfoaaDoorW.PrintLast Go.Proofs.YtaeenefdbahfoaaDoorW.PrintMore
attribute [local go_sem] max2_int min2_int max_two min_two max_three min_three max_four min_four   -- for this text's walks alone
set_option linter.unusedVariables false
set_option linter.unusedSimpArgs false
theorem eqA60 (d : Nat) (w : World) (x0 y0 : Int) (x1 y1 : Int) (x2 y2 : Int) :
    (Op.equalIn (d + 2) 60 (.agg #[.int .i64 x0, .int .i64 x1, .int .i64 x2]) (.agg #[.int .i64 y0, .int .i64 y1, .int .i64 y2])).run Tryd.prog w = .ok (x0 == y0 && (x1 == y1 && (x2 == y2))) w := by
  refine eqA_of Tryd.underlying60 (by kernel_rfl) ?_
  refine eqf_cons (by rfl) (by go_simp; rfl) (by go_simp; rfl) (by go_simp) ?_
  refine eqf_cons (by rfl) (by go_simp; rfl) (by go_simp; rfl) (by go_simp) ?_
  exact eqf_last (by rfl) (by go_simp; rfl) (by go_simp; rfl) (by go_simp)
theorem eqA63 (d : Nat) (w : World) (x0 y0 : Int) (x1 y1 : Int) :
    (Op.equalIn (d + 2) 63 (.agg #[.int .i64 x0, .int .i64 x1]) (.agg #[.int .i64 y0, .int .i64 y1])).run Tryd.prog w = .ok (x0 == y0 && (x1 == y1)) w := by
  refine eqA_of Tryd.underlying63 (by kernel_rfl) ?_
  refine eqf_cons (by rfl) (by go_simp; rfl) (by go_simp; rfl) (by go_simp) ?_
  exact eqf_last (by rfl) (by go_simp; rfl) (by go_simp; rfl) (by go_simp)
theorem eqA65 (d : Nat) (w : World) (x0 y0 : Int) (x1 y1 : Int) (x2 y2 : Int) :
    (Op.equalIn (d + 3) 65 (.agg #[.int .i64 x0, .int .i64 x1, .int .i64 x2]) (.agg #[.int .i64 y0, .int .i64 y1, .int .i64 y2])).run Tryd.prog w = .ok ((x0 == y0 && (x1 == y1)) && (x2 == y2)) w := by
  refine eqA_of Tryd.underlying65 (by kernel_rfl) ?_
  refine eqf_cons (by rfl) (by go_simp) (by go_simp) (eqA63 (d + 0) w _ _ _ _) ?_
  exact eqf_last (by rfl) (by go_simp; rfl) (by go_simp; rfl) (by go_simp)
theorem eqA104 (d : Nat) (w : World) (x0 y0 : Int) (x1 y1 : Int) :
    (Op.equalIn (d + 2) 104 (.agg #[.int .i64 x0, .int .u8 x1]) (.agg #[.int .i64 y0, .int .u8 y1])).run Tryd.prog w = .ok (x0 == y0 && (x1 == y1)) w := by
  refine eqA_of Tryd.underlying104 (by kernel_rfl) ?_
  refine eqf_cons (by rfl) (by go_simp; rfl) (by go_simp; rfl) (by go_simp) ?_
  exact eqf_last (by rfl) (by go_simp; rfl) (by go_simp; rfl) (by go_simp)
end Go.Proofs.YtaeenefdbahfoaaDoor.H
namespace Go.Proofs.YtaeenefdbahfoaaDoor.H
open Go.RowKit Go.Proofs.YtaeenefdbahfoaaDoorW.PrintWords Go.Proofs.YtaeenefdbahfoaaDoorW.PrintLast Go.Proofs.YtaeenefdbahfoaaDoorW.PrintMore
attribute [local go_sem] max2_int min2_int max_two min_two max_three min_three max_four min_four   -- for this text's walks alone
set_option linter.unusedVariables false
set_option linter.unusedSimpArgs false
attribute [local go_sem high] eqA65
def honeycomblaw03_Own.f (a0_0 : Int) (a0_1 : Int) (a0_2 : Int) : Option (Int × Int × Int) := some (a0_0, a0_1, a0_2)
set_option maxHeartbeats 8000000 in
set_option maxRecDepth 100000 in
theorem honeycomblaw03_Own.calls (a0_0 : Int) (a0_1 : Int) (a0_2 : Int) (r1 : Int) (r2 : Int) (r3 : Int) (w : World) (h : honeycomblaw03_Own.f a0_0 a0_1 a0_2 = some (r1, r2, r3)) :
  Calls Tryd.prog 34 #[.agg #[.int .i64 a0_0, .int .i64 a0_1, .int .i64 a0_2]] w fun e w' => e = .returned (.agg #[.int .i64 r1, .int .i64 r2, .int .i64 r3]) ∧ Below w.heap.size w w' := by
 have hu60 := Tryd.underlying60
 have hu65 := Tryd.underlying65
 have hu63 := Tryd.underlying63
 have HB := Aside0.mk (Below.refl w.heap.size w)
 have H : (some (a0_0, a0_1, a0_2)) = some (r1, r2, r3) := h
 clear h
 simp only [Option.some.injEq, Prod.mk.injEq] at H
 obtain ⟨rfl, rfl, rfl⟩ := H
 go_enter Tryd.func34, Tryd.ntmps34
 go_wp2_with (first | ((with_reducible refine gate_dst (N := 1) rfl ?_); refine box_event ?hg (N := 1) ?hd (cs := #[.int .i64 a0_0, .int .i64 a0_1, .int .i64 a0_2]) (t := 60) ?hr ?_; (case hd => rfl); (case hg => rfl); (case hr => first | (go_simp; done) | (go_simp; rfl)); intro gb304 hg w2 hbox hb; have n0_ := Aside0.mk (below_step (by repeat (first | (with_reducible first | exact HB.out | apply ba_ | apply bn_ | apply bd_) | exact HB.out)) hb); have n1_ := Aside0.mk (hbox); have n2_ := Aside0.mk ((by rw [hg]; exact (below_size (by repeat (first | (with_reducible first | exact HB.out | apply ba_ | apply bn_ | apply bd_) | exact HB.out))) : w.heap.size ≤ gb304)); have n3_ := Aside0.mk ((by rw [hg]; exact (below_size (by repeat (first | (with_reducible first | exact HB.out | apply ba_ | apply bn_ | apply bd_) | exact HB.out))) : w.heap.size ≤ gb304)); clear HB; have HB := n0_; have BK304 := n1_; have GW304 := n2_; have GE304 := n3_; clear n0_ n1_ n2_ n3_; clear hb hbox hg) | ((with_reducible refine gate_dst (N := 2) rfl ?_); refine box_event ?hg (N := 2) ?hd (cs := #[.int .i64 0, .int .i64 0, .int .i64 0]) (t := 65) ?hr ?_; (case hd => rfl); (case hg => rfl); (case hr => first | (go_simp; done) | (go_simp; rfl)); intro gb305 hg w3 hbox hb; have n0_ := Aside0.mk (blk_below (g := gb304) (o := .cells #[.int .i64 a0_0, .int .i64 a0_1, .int .i64 a0_2] 60 (0, 0)) (by (with_reducible repeat (first | apply bN_ | apply bD_ | apply bA_)); exact BK304.out) hb); have n1_ := Aside0.mk (below_step (by repeat (first | (with_reducible first | exact HB.out | apply ba_ | apply bn_ | apply bd_ | refine below_set ?_ GE304.out) | exact HB.out)) hb); have n2_ := Aside0.mk (hbox); have n3_ := Aside0.mk ((by rw [hg]; exact (below_size (by repeat (first | (with_reducible first | exact HB.out | apply ba_ | apply bn_ | apply bd_ | refine below_set ?_ GE304.out) | exact HB.out))) : w.heap.size ≤ gb305)); have n4_ := Aside0.mk ((by rw [hg]; exact (below_size (by repeat (first | (with_reducible first | exact HB.out | apply ba_ | apply bn_ | apply bd_ | refine below_set ?_ GE304.out) | exact HB.out))) : w.heap.size ≤ gb305)); have n5_ := Aside0.mk ((by rw [hg]; exact Nat.ne_of_lt (blk_lt (g := gb304) (o := .cells #[.int .i64 a0_0, .int .i64 a0_1, .int .i64 a0_2] 60 (0, 0)) (by (with_reducible repeat (first | apply bN_ | apply bD_ | apply bA_)); exact BK304.out)) : gb304 ≠ gb305)); have n6_ := Aside0.mk ((by rw [hg]; exact Nat.ne_of_gt (blk_lt (g := gb304) (o := .cells #[.int .i64 a0_0, .int .i64 a0_1, .int .i64 a0_2] 60 (0, 0)) (by (with_reducible repeat (first | apply bN_ | apply bD_ | apply bA_)); exact BK304.out)) : gb305 ≠ gb304)); clear BK304; clear HB; have BK304 := n0_; have HB := n1_; have BK305 := n2_; have GW305 := n3_; have GE305 := n4_; have NB304_305 := n5_; have NB305_304 := n6_; clear n0_ n1_ n2_ n3_ n4_ n5_ n6_; clear hb hbox hg; have hnb4 := NB304_305.out; have hnc4 := NB305_304.out; have hcz5_0 : w3.cell? ⟨gb304, 0, none⟩ = some (.int .i64 a0_0) := (blk_cell BK304.out 0).trans rfl; have hcz5_1 : w3.cell? ⟨gb304, 1, none⟩ = some (.int .i64 a0_1) := (blk_cell BK304.out 1).trans rfl; have hcz5_2 : w3.cell? ⟨gb304, 2, none⟩ = some (.int .i64 a0_2) := (blk_cell BK304.out 2).trans rfl; have hfz5_0 := blk_frozen BK304.out 0; have hfz5_1 := blk_frozen BK304.out 1; have hfz5_2 := blk_frozen BK304.out 2; have hcz6_0 : w3.cell? ⟨gb305, 0, none⟩ = some (.int .i64 0) := (blk_cell BK305.out 0).trans rfl; have hcz6_1 : w3.cell? ⟨gb305, 1, none⟩ = some (.int .i64 0) := (blk_cell BK305.out 1).trans rfl; have hcz6_2 : w3.cell? ⟨gb305, 2, none⟩ = some (.int .i64 0) := (blk_cell BK305.out 2).trans rfl; have hfz6_0 := blk_frozen BK305.out 0; have hfz6_1 := blk_frozen BK305.out 1; have hfz6_2 := blk_frozen BK305.out 2))
 refine bodyPost_ret (results_cell_row rfl _ _ gb305 65 #[.int .i64 a0_0, .int .i64 a0_1, .int .i64 a0_2] (0, 0) _ rfl (by (with_reducible repeat (first | apply bN_ | apply bD_ | apply bA_)); refine blk_put (cs := #[.int .i64 a0_0, .int .i64 a0_1, .int .i64 0]) ?_ 2 _ rfl; (with_reducible repeat (first | apply bN_ | apply bD_ | apply bA_)); refine blk_put (cs := #[.int .i64 a0_0, .int .i64 0, .int .i64 0]) ?_ 1 _ rfl; (with_reducible repeat (first | apply bN_ | apply bD_ | apply bA_)); refine blk_put (cs := #[.int .i64 0, .int .i64 0, .int .i64 0]) ?_ 0 _ rfl; (with_reducible repeat (first | apply bN_ | apply bD_ | apply bA_)); exact BK305.out) Tryd.underlying65 rfl (by kernel_rfl)) rfl ?_
 exact ⟨by first | rfl | (simp [errW_none, errW_some] <;> rfl) | (simp [*, errW_none, errW_some] <;> rfl), by repeat (first | (with_reducible first | exact HB.out | apply ba_ | apply bn_ | apply bd_ | refine below_set ?_ GE304.out | refine below_set ?_ GE305.out) | exact HB.out)⟩
def honeycomblaw03_Told.f (a0_0 : Int) (a0_1 : Int) (a0_2 : Int) : Option (Int × Int × Int) := some (a0_0, a0_1, a0_2)
set_option maxHeartbeats 8000000 in
set_option maxRecDepth 100000 in
theorem honeycomblaw03_Told.calls (a0_0 : Int) (a0_1 : Int) (a0_2 : Int) (r1 : Int) (r2 : Int) (r3 : Int) (w : World) (h : honeycomblaw03_Told.f a0_0 a0_1 a0_2 = some (r1, r2, r3)) :
  Calls Tryd.prog 29 #[.agg #[.int .i64 a0_0, .int .i64 a0_1, .int .i64 a0_2]] w fun e w' => e = .returned (.agg #[.int .i64 r1, .int .i64 r2, .int .i64 r3]) ∧ Below w.heap.size w w' := by
 have hu65 := Tryd.underlying65
 have hu60 := Tryd.underlying60
 have HB := Aside0.mk (Below.refl w.heap.size w)
 have H : (some (a0_0, a0_1, a0_2)) = some (r1, r2, r3) := h
 clear h
 simp only [Option.some.injEq, Prod.mk.injEq] at H
 obtain ⟨rfl, rfl, rfl⟩ := H
 go_enter Tryd.func29, Tryd.ntmps29
 go_wp2_with (first | ((with_reducible refine gate_dst (N := 1) rfl ?_); refine box_event ?hg (N := 1) ?hd (cs := #[.int .i64 a0_0, .int .i64 a0_1, .int .i64 a0_2]) (t := 65) ?hr ?_; (case hd => rfl); (case hg => rfl); (case hr => first | (go_simp; done) | (go_simp; rfl)); intro gb337 hg w2 hbox hb; have n0_ := Aside0.mk (below_step (by repeat (first | (with_reducible first | exact HB.out | apply ba_ | apply bn_ | apply bd_) | exact HB.out)) hb); have n1_ := Aside0.mk (hbox); have n2_ := Aside0.mk ((by rw [hg]; exact (below_size (by repeat (first | (with_reducible first | exact HB.out | apply ba_ | apply bn_ | apply bd_) | exact HB.out))) : w.heap.size ≤ gb337)); have n3_ := Aside0.mk ((by rw [hg]; exact (below_size (by repeat (first | (with_reducible first | exact HB.out | apply ba_ | apply bn_ | apply bd_) | exact HB.out))) : w.heap.size ≤ gb337)); clear HB; have HB := n0_; have BK337 := n1_; have GW337 := n2_; have GE337 := n3_; clear n0_ n1_ n2_ n3_; clear hb hbox hg) | ((with_reducible refine gate_dst (N := 2) rfl ?_); refine box_event ?hg (N := 2) ?hd (cs := #[.int .i64 0, .int .i64 0, .int .i64 0]) (t := 60) ?hr ?_; (case hd => rfl); (case hg => rfl); (case hr => first | (go_simp; done) | (go_simp; rfl)); intro gb338 hg w3 hbox hb; have n0_ := Aside0.mk (blk_below (g := gb337) (o := .cells #[.int .i64 a0_0, .int .i64 a0_1, .int .i64 a0_2] 65 (0, 0)) (by (with_reducible repeat (first | apply bN_ | apply bD_ | apply bA_)); exact BK337.out) hb); have n1_ := Aside0.mk (below_step (by repeat (first | (with_reducible first | exact HB.out | apply ba_ | apply bn_ | apply bd_ | refine below_set ?_ GE337.out) | exact HB.out)) hb); have n2_ := Aside0.mk (hbox); have n3_ := Aside0.mk ((by rw [hg]; exact (below_size (by repeat (first | (with_reducible first | exact HB.out | apply ba_ | apply bn_ | apply bd_ | refine below_set ?_ GE337.out) | exact HB.out))) : w.heap.size ≤ gb338)); have n4_ := Aside0.mk ((by rw [hg]; exact (below_size (by repeat (first | (with_reducible first | exact HB.out | apply ba_ | apply bn_ | apply bd_ | refine below_set ?_ GE337.out) | exact HB.out))) : w.heap.size ≤ gb338)); have n5_ := Aside0.mk ((by rw [hg]; exact Nat.ne_of_lt (blk_lt (g := gb337) (o := .cells #[.int .i64 a0_0, .int .i64 a0_1, .int .i64 a0_2] 65 (0, 0)) (by (with_reducible repeat (first | apply bN_ | apply bD_ | apply bA_)); exact BK337.out)) : gb337 ≠ gb338)); have n6_ := Aside0.mk ((by rw [hg]; exact Nat.ne_of_gt (blk_lt (g := gb337) (o := .cells #[.int .i64 a0_0, .int .i64 a0_1, .int .i64 a0_2] 65 (0, 0)) (by (with_reducible repeat (first | apply bN_ | apply bD_ | apply bA_)); exact BK337.out)) : gb338 ≠ gb337)); clear BK337; clear HB; have BK337 := n0_; have HB := n1_; have BK338 := n2_; have GW338 := n3_; have GE338 := n4_; have NB337_338 := n5_; have NB338_337 := n6_; clear n0_ n1_ n2_ n3_ n4_ n5_ n6_; clear hb hbox hg; have hnb4 := NB337_338.out; have hnc4 := NB338_337.out; have hcz5_0 : w3.cell? ⟨gb337, 0, none⟩ = some (.int .i64 a0_0) := (blk_cell BK337.out 0).trans rfl; have hcz5_1 : w3.cell? ⟨gb337, 1, none⟩ = some (.int .i64 a0_1) := (blk_cell BK337.out 1).trans rfl; have hcz5_2 : w3.cell? ⟨gb337, 2, none⟩ = some (.int .i64 a0_2) := (blk_cell BK337.out 2).trans rfl; have hfz5_0 := blk_frozen BK337.out 0; have hfz5_1 := blk_frozen BK337.out 1; have hfz5_2 := blk_frozen BK337.out 2; have hcz6_0 : w3.cell? ⟨gb338, 0, none⟩ = some (.int .i64 0) := (blk_cell BK338.out 0).trans rfl; have hcz6_1 : w3.cell? ⟨gb338, 1, none⟩ = some (.int .i64 0) := (blk_cell BK338.out 1).trans rfl; have hcz6_2 : w3.cell? ⟨gb338, 2, none⟩ = some (.int .i64 0) := (blk_cell BK338.out 2).trans rfl; have hfz6_0 := blk_frozen BK338.out 0; have hfz6_1 := blk_frozen BK338.out 1; have hfz6_2 := blk_frozen BK338.out 2))
 refine bodyPost_ret (results_cell_row rfl _ _ gb338 60 #[.int .i64 a0_0, .int .i64 a0_1, .int .i64 a0_2] (0, 0) _ rfl (by (with_reducible repeat (first | apply bN_ | apply bD_ | apply bA_)); refine blk_put (cs := #[.int .i64 a0_0, .int .i64 a0_1, .int .i64 0]) ?_ 2 _ rfl; (with_reducible repeat (first | apply bN_ | apply bD_ | apply bA_)); refine blk_put (cs := #[.int .i64 a0_0, .int .i64 0, .int .i64 0]) ?_ 1 _ rfl; (with_reducible repeat (first | apply bN_ | apply bD_ | apply bA_)); refine blk_put (cs := #[.int .i64 0, .int .i64 0, .int .i64 0]) ?_ 0 _ rfl; (with_reducible repeat (first | apply bN_ | apply bD_ | apply bA_)); exact BK338.out) Tryd.underlying60 rfl (by kernel_rfl)) rfl ?_
 exact ⟨by first | rfl | (simp [errW_none, errW_some] <;> rfl) | (simp [*, errW_none, errW_some] <;> rfl), by repeat (first | (with_reducible first | exact HB.out | apply ba_ | apply bn_ | apply bd_ | refine below_set ?_ GE337.out | refine below_set ?_ GE338.out) | exact HB.out)⟩
def honeycombref03_Ahead.f (a0_0 : Int) (a0_1 : Int) (a0_2 : Int) (a1_0 : Int) (a1_1 : Int) (a1_2 : Int) : Option (Bool) := if a0_1 = a1_1 then (if a0_0 = a1_0 then (some (decide (a0_2 < a1_2))) else (some (decide (a0_0 < a1_0)))) else (some (decide (a0_1 < a1_1)))
set_option maxHeartbeats 8000000 in
set_option maxRecDepth 100000 in
theorem honeycombref03_Ahead.calls (a0_0 : Int) (a0_1 : Int) (a0_2 : Int) (a1_0 : Int) (a1_1 : Int) (a1_2 : Int) (r : Bool) (w : World) (h : honeycombref03_Ahead.f a0_0 a0_1 a0_2 a1_0 a1_1 a1_2 = some r) :
  Calls Tryd.prog 84 #[.agg #[.int .i64 a0_0, .int .i64 a0_1, .int .i64 a0_2], .agg #[.int .i64 a1_0, .int .i64 a1_1, .int .i64 a1_2]] w fun e w' => e = .returned (.bool r) ∧ Below w.heap.size w w' := by
 have hu60 := Tryd.underlying60
 have HB := Aside0.mk (Below.refl w.heap.size w)
 have H : (if a0_1 = a1_1 then (if a0_0 = a1_0 then (some (decide (a0_2 < a1_2))) else (some (decide (a0_0 < a1_0)))) else (some (decide (a0_1 < a1_1)))) = some r := h
 clear h
 by_cases c3 : a0_1 = a1_1
 ·
  rw [if_pos c3] at H
  have c3b0 : (a0_1 == a1_1) = true := beq_iff_eq.mpr c3
  have c3b1 : (a0_1 != a1_1) = false := bne_eq_false_iff_eq.mpr c3
  clear c3
  by_cases c4 : a0_0 = a1_0
  ·
   rw [if_pos c4] at H
   have c4b0 : (a0_0 == a1_0) = true := beq_iff_eq.mpr c4
   have c4b1 : (a0_0 != a1_0) = false := bne_eq_false_iff_eq.mpr c4
   clear c4
   obtain rfl := Option.some.inj H
   go_enter Tryd.func84, Tryd.ntmps84
   go_wp2_with (first | ((with_reducible refine gate_dst (N := 2) rfl ?_); refine box_event ?hg (N := 2) ?hd (cs := #[.int .i64 a0_0, .int .i64 a0_1, .int .i64 a0_2]) (t := 60) ?hr ?_; (case hd => rfl); (case hg => rfl); (case hr => first | (go_simp; done) | (go_simp; rfl)); intro gb500 hg w5 hbox hb; have n0_ := Aside0.mk (below_step (by repeat (first | (with_reducible first | exact HB.out | apply ba_ | apply bn_ | apply bd_) | exact HB.out)) hb); have n1_ := Aside0.mk (hbox); have n2_ := Aside0.mk ((by rw [hg]; exact (below_size (by repeat (first | (with_reducible first | exact HB.out | apply ba_ | apply bn_ | apply bd_) | exact HB.out))) : w.heap.size ≤ gb500)); have n3_ := Aside0.mk ((by rw [hg]; exact (below_size (by repeat (first | (with_reducible first | exact HB.out | apply ba_ | apply bn_ | apply bd_) | exact HB.out))) : w.heap.size ≤ gb500)); clear HB; have HB := n0_; have BK500 := n1_; have GW500 := n2_; have GE500 := n3_; clear n0_ n1_ n2_ n3_; clear hb hbox hg) | ((with_reducible refine gate_dst (N := 3) rfl ?_); refine box_event ?hg (N := 3) ?hd (cs := #[.int .i64 a1_0, .int .i64 a1_1, .int .i64 a1_2]) (t := 60) ?hr ?_; (case hd => rfl); (case hg => rfl); (case hr => first | (go_simp; done) | (go_simp; rfl)); intro gb501 hg w6 hbox hb; have n0_ := Aside0.mk (blk_below (g := gb500) (o := .cells #[.int .i64 a0_0, .int .i64 a0_1, .int .i64 a0_2] 60 (0, 0)) (by (with_reducible repeat (first | apply bN_ | apply bD_ | apply bA_)); exact BK500.out) hb); have n1_ := Aside0.mk (below_step (by repeat (first | (with_reducible first | exact HB.out | apply ba_ | apply bn_ | apply bd_ | refine below_set ?_ GE500.out) | exact HB.out)) hb); have n2_ := Aside0.mk (hbox); have n3_ := Aside0.mk ((by rw [hg]; exact (below_size (by repeat (first | (with_reducible first | exact HB.out | apply ba_ | apply bn_ | apply bd_ | refine below_set ?_ GE500.out) | exact HB.out))) : w.heap.size ≤ gb501)); have n4_ := Aside0.mk ((by rw [hg]; exact (below_size (by repeat (first | (with_reducible first | exact HB.out | apply ba_ | apply bn_ | apply bd_ | refine below_set ?_ GE500.out) | exact HB.out))) : w.heap.size ≤ gb501)); have n5_ := Aside0.mk ((by rw [hg]; exact Nat.ne_of_lt (blk_lt (g := gb500) (o := .cells #[.int .i64 a0_0, .int .i64 a0_1, .int .i64 a0_2] 60 (0, 0)) (by (with_reducible repeat (first | apply bN_ | apply bD_ | apply bA_)); exact BK500.out)) : gb500 ≠ gb501)); have n6_ := Aside0.mk ((by rw [hg]; exact Nat.ne_of_gt (blk_lt (g := gb500) (o := .cells #[.int .i64 a0_0, .int .i64 a0_1, .int .i64 a0_2] 60 (0, 0)) (by (with_reducible repeat (first | apply bN_ | apply bD_ | apply bA_)); exact BK500.out)) : gb501 ≠ gb500)); clear BK500; clear HB; have BK500 := n0_; have HB := n1_; have BK501 := n2_; have GW501 := n3_; have GE501 := n4_; have NB500_501 := n5_; have NB501_500 := n6_; clear n0_ n1_ n2_ n3_ n4_ n5_ n6_; clear hb hbox hg; have hnb7 := NB500_501.out; have hnc7 := NB501_500.out; have hcz8_0 : w6.cell? ⟨gb500, 0, none⟩ = some (.int .i64 a0_0) := (blk_cell BK500.out 0).trans rfl; have hcz8_1 : w6.cell? ⟨gb500, 1, none⟩ = some (.int .i64 a0_1) := (blk_cell BK500.out 1).trans rfl; have hcz8_2 : w6.cell? ⟨gb500, 2, none⟩ = some (.int .i64 a0_2) := (blk_cell BK500.out 2).trans rfl; have hfz8_0 := blk_frozen BK500.out 0; have hfz8_1 := blk_frozen BK500.out 1; have hfz8_2 := blk_frozen BK500.out 2; have hcz9_0 : w6.cell? ⟨gb501, 0, none⟩ = some (.int .i64 a1_0) := (blk_cell BK501.out 0).trans rfl; have hcz9_1 : w6.cell? ⟨gb501, 1, none⟩ = some (.int .i64 a1_1) := (blk_cell BK501.out 1).trans rfl; have hcz9_2 : w6.cell? ⟨gb501, 2, none⟩ = some (.int .i64 a1_2) := (blk_cell BK501.out 2).trans rfl; have hfz9_0 := blk_frozen BK501.out 0; have hfz9_1 := blk_frozen BK501.out 1; have hfz9_2 := blk_frozen BK501.out 2))
   go_ret
   exact ⟨by first | rfl | (simp [errW_none, errW_some] <;> rfl) | (simp [*, errW_none, errW_some] <;> rfl), by repeat (first | (with_reducible first | exact HB.out | apply ba_ | apply bn_ | apply bd_ | refine below_set ?_ GE500.out | refine below_set ?_ GE501.out) | exact HB.out)⟩
  ·
   rw [if_neg c4] at H
   have c4b0 : (a0_0 == a1_0) = false := beq_eq_false_iff_ne.mpr c4
   have c4b1 : (a0_0 != a1_0) = true := bne_iff_ne.mpr c4
   obtain rfl := Option.some.inj H
   go_enter Tryd.func84, Tryd.ntmps84
   go_wp2_with (first | ((with_reducible refine gate_dst (N := 2) rfl ?_); refine box_event ?hg (N := 2) ?hd (cs := #[.int .i64 a0_0, .int .i64 a0_1, .int .i64 a0_2]) (t := 60) ?hr ?_; (case hd => rfl); (case hg => rfl); (case hr => first | (go_simp; done) | (go_simp; rfl)); intro gb500 hg w10 hbox hb; have n0_ := Aside0.mk (below_step (by repeat (first | (with_reducible first | exact HB.out | apply ba_ | apply bn_ | apply bd_) | exact HB.out)) hb); have n1_ := Aside0.mk (hbox); have n2_ := Aside0.mk ((by rw [hg]; exact (below_size (by repeat (first | (with_reducible first | exact HB.out | apply ba_ | apply bn_ | apply bd_) | exact HB.out))) : w.heap.size ≤ gb500)); have n3_ := Aside0.mk ((by rw [hg]; exact (below_size (by repeat (first | (with_reducible first | exact HB.out | apply ba_ | apply bn_ | apply bd_) | exact HB.out))) : w.heap.size ≤ gb500)); clear HB; have HB := n0_; have BK500 := n1_; have GW500 := n2_; have GE500 := n3_; clear n0_ n1_ n2_ n3_; clear hb hbox hg) | ((with_reducible refine gate_dst (N := 3) rfl ?_); refine box_event ?hg (N := 3) ?hd (cs := #[.int .i64 a1_0, .int .i64 a1_1, .int .i64 a1_2]) (t := 60) ?hr ?_; (case hd => rfl); (case hg => rfl); (case hr => first | (go_simp; done) | (go_simp; rfl)); intro gb501 hg w11 hbox hb; have n0_ := Aside0.mk (blk_below (g := gb500) (o := .cells #[.int .i64 a0_0, .int .i64 a0_1, .int .i64 a0_2] 60 (0, 0)) (by (with_reducible repeat (first | apply bN_ | apply bD_ | apply bA_)); exact BK500.out) hb); have n1_ := Aside0.mk (below_step (by repeat (first | (with_reducible first | exact HB.out | apply ba_ | apply bn_ | apply bd_ | refine below_set ?_ GE500.out) | exact HB.out)) hb); have n2_ := Aside0.mk (hbox); have n3_ := Aside0.mk ((by rw [hg]; exact (below_size (by repeat (first | (with_reducible first | exact HB.out | apply ba_ | apply bn_ | apply bd_ | refine below_set ?_ GE500.out) | exact HB.out))) : w.heap.size ≤ gb501)); have n4_ := Aside0.mk ((by rw [hg]; exact (below_size (by repeat (first | (with_reducible first | exact HB.out | apply ba_ | apply bn_ | apply bd_ | refine below_set ?_ GE500.out) | exact HB.out))) : w.heap.size ≤ gb501)); have n5_ := Aside0.mk ((by rw [hg]; exact Nat.ne_of_lt (blk_lt (g := gb500) (o := .cells #[.int .i64 a0_0, .int .i64 a0_1, .int .i64 a0_2] 60 (0, 0)) (by (with_reducible repeat (first | apply bN_ | apply bD_ | apply bA_)); exact BK500.out)) : gb500 ≠ gb501)); have n6_ := Aside0.mk ((by rw [hg]; exact Nat.ne_of_gt (blk_lt (g := gb500) (o := .cells #[.int .i64 a0_0, .int .i64 a0_1, .int .i64 a0_2] 60 (0, 0)) (by (with_reducible repeat (first | apply bN_ | apply bD_ | apply bA_)); exact BK500.out)) : gb501 ≠ gb500)); clear BK500; clear HB; have BK500 := n0_; have HB := n1_; have BK501 := n2_; have GW501 := n3_; have GE501 := n4_; have NB500_501 := n5_; have NB501_500 := n6_; clear n0_ n1_ n2_ n3_ n4_ n5_ n6_; clear hb hbox hg; have hnb12 := NB500_501.out; have hnc12 := NB501_500.out; have hcz13_0 : w11.cell? ⟨gb500, 0, none⟩ = some (.int .i64 a0_0) := (blk_cell BK500.out 0).trans rfl; have hcz13_1 : w11.cell? ⟨gb500, 1, none⟩ = some (.int .i64 a0_1) := (blk_cell BK500.out 1).trans rfl; have hcz13_2 : w11.cell? ⟨gb500, 2, none⟩ = some (.int .i64 a0_2) := (blk_cell BK500.out 2).trans rfl; have hfz13_0 := blk_frozen BK500.out 0; have hfz13_1 := blk_frozen BK500.out 1; have hfz13_2 := blk_frozen BK500.out 2; have hcz14_0 : w11.cell? ⟨gb501, 0, none⟩ = some (.int .i64 a1_0) := (blk_cell BK501.out 0).trans rfl; have hcz14_1 : w11.cell? ⟨gb501, 1, none⟩ = some (.int .i64 a1_1) := (blk_cell BK501.out 1).trans rfl; have hcz14_2 : w11.cell? ⟨gb501, 2, none⟩ = some (.int .i64 a1_2) := (blk_cell BK501.out 2).trans rfl; have hfz14_0 := blk_frozen BK501.out 0; have hfz14_1 := blk_frozen BK501.out 1; have hfz14_2 := blk_frozen BK501.out 2))
   go_ret
   exact ⟨by first | rfl | (simp [errW_none, errW_some] <;> rfl) | (simp [*, errW_none, errW_some] <;> rfl), by repeat (first | (with_reducible first | exact HB.out | apply ba_ | apply bn_ | apply bd_ | refine below_set ?_ GE500.out | refine below_set ?_ GE501.out) | exact HB.out)⟩
 ·
  rw [if_neg c3] at H
  have c3b0 : (a0_1 == a1_1) = false := beq_eq_false_iff_ne.mpr c3
  have c3b1 : (a0_1 != a1_1) = true := bne_iff_ne.mpr c3
  obtain rfl := Option.some.inj H
  go_enter Tryd.func84, Tryd.ntmps84
  go_wp2_with (first | ((with_reducible refine gate_dst (N := 2) rfl ?_); refine box_event ?hg (N := 2) ?hd (cs := #[.int .i64 a0_0, .int .i64 a0_1, .int .i64 a0_2]) (t := 60) ?hr ?_; (case hd => rfl); (case hg => rfl); (case hr => first | (go_simp; done) | (go_simp; rfl)); intro gb500 hg w15 hbox hb; have n0_ := Aside0.mk (below_step (by repeat (first | (with_reducible first | exact HB.out | apply ba_ | apply bn_ | apply bd_) | exact HB.out)) hb); have n1_ := Aside0.mk (hbox); have n2_ := Aside0.mk ((by rw [hg]; exact (below_size (by repeat (first | (with_reducible first | exact HB.out | apply ba_ | apply bn_ | apply bd_) | exact HB.out))) : w.heap.size ≤ gb500)); have n3_ := Aside0.mk ((by rw [hg]; exact (below_size (by repeat (first | (with_reducible first | exact HB.out | apply ba_ | apply bn_ | apply bd_) | exact HB.out))) : w.heap.size ≤ gb500)); clear HB; have HB := n0_; have BK500 := n1_; have GW500 := n2_; have GE500 := n3_; clear n0_ n1_ n2_ n3_; clear hb hbox hg) | ((with_reducible refine gate_dst (N := 3) rfl ?_); refine box_event ?hg (N := 3) ?hd (cs := #[.int .i64 a1_0, .int .i64 a1_1, .int .i64 a1_2]) (t := 60) ?hr ?_; (case hd => rfl); (case hg => rfl); (case hr => first | (go_simp; done) | (go_simp; rfl)); intro gb501 hg w16 hbox hb; have n0_ := Aside0.mk (blk_below (g := gb500) (o := .cells #[.int .i64 a0_0, .int .i64 a0_1, .int .i64 a0_2] 60 (0, 0)) (by (with_reducible repeat (first | apply bN_ | apply bD_ | apply bA_)); exact BK500.out) hb); have n1_ := Aside0.mk (below_step (by repeat (first | (with_reducible first | exact HB.out | apply ba_ | apply bn_ | apply bd_ | refine below_set ?_ GE500.out) | exact HB.out)) hb); have n2_ := Aside0.mk (hbox); have n3_ := Aside0.mk ((by rw [hg]; exact (below_size (by repeat (first | (with_reducible first | exact HB.out | apply ba_ | apply bn_ | apply bd_ | refine below_set ?_ GE500.out) | exact HB.out))) : w.heap.size ≤ gb501)); have n4_ := Aside0.mk ((by rw [hg]; exact (below_size (by repeat (first | (with_reducible first | exact HB.out | apply ba_ | apply bn_ | apply bd_ | refine below_set ?_ GE500.out) | exact HB.out))) : w.heap.size ≤ gb501)); have n5_ := Aside0.mk ((by rw [hg]; exact Nat.ne_of_lt (blk_lt (g := gb500) (o := .cells #[.int .i64 a0_0, .int .i64 a0_1, .int .i64 a0_2] 60 (0, 0)) (by (with_reducible repeat (first | apply bN_ | apply bD_ | apply bA_)); exact BK500.out)) : gb500 ≠ gb501)); have n6_ := Aside0.mk ((by rw [hg]; exact Nat.ne_of_gt (blk_lt (g := gb500) (o := .cells #[.int .i64 a0_0, .int .i64 a0_1, .int .i64 a0_2] 60 (0, 0)) (by (with_reducible repeat (first | apply bN_ | apply bD_ | apply bA_)); exact BK500.out)) : gb501 ≠ gb500)); clear BK500; clear HB; have BK500 := n0_; have HB := n1_; have BK501 := n2_; have GW501 := n3_; have GE501 := n4_; have NB500_501 := n5_; have NB501_500 := n6_; clear n0_ n1_ n2_ n3_ n4_ n5_ n6_; clear hb hbox hg; have hnb17 := NB500_501.out; have hnc17 := NB501_500.out; have hcz18_0 : w16.cell? ⟨gb500, 0, none⟩ = some (.int .i64 a0_0) := (blk_cell BK500.out 0).trans rfl; have hcz18_1 : w16.cell? ⟨gb500, 1, none⟩ = some (.int .i64 a0_1) := (blk_cell BK500.out 1).trans rfl; have hcz18_2 : w16.cell? ⟨gb500, 2, none⟩ = some (.int .i64 a0_2) := (blk_cell BK500.out 2).trans rfl; have hfz18_0 := blk_frozen BK500.out 0; have hfz18_1 := blk_frozen BK500.out 1; have hfz18_2 := blk_frozen BK500.out 2; have hcz19_0 : w16.cell? ⟨gb501, 0, none⟩ = some (.int .i64 a1_0) := (blk_cell BK501.out 0).trans rfl; have hcz19_1 : w16.cell? ⟨gb501, 1, none⟩ = some (.int .i64 a1_1) := (blk_cell BK501.out 1).trans rfl; have hcz19_2 : w16.cell? ⟨gb501, 2, none⟩ = some (.int .i64 a1_2) := (blk_cell BK501.out 2).trans rfl; have hfz19_0 := blk_frozen BK501.out 0; have hfz19_1 := blk_frozen BK501.out 1; have hfz19_2 := blk_frozen BK501.out 2))
  go_ret
  exact ⟨by first | rfl | (simp [errW_none, errW_some] <;> rfl) | (simp [*, errW_none, errW_some] <;> rfl), by repeat (first | (with_reducible first | exact HB.out | apply ba_ | apply bn_ | apply bd_ | refine below_set ?_ GE500.out | refine below_set ?_ GE501.out) | exact HB.out)⟩
def honeycombref01_Good.f (a0 : Int) (a1 : Int) : Option (Bool) := if a0 ≤ 1099511627776 then (if a0 ≥ (-1099511627776) then (if a1 ≤ 1099511627776 then (some (decide (a1 ≥ (-1099511627776)))) else (some false)) else (some false)) else (some false)
set_option maxHeartbeats 8000000 in
set_option maxRecDepth 100000 in
theorem honeycombref01_Good.calls (a0 : Int) (a1 : Int) (r : Bool) (w : World) (h : honeycombref01_Good.f a0 a1 = some r) :
  Calls Tryd.prog 67 #[.int .i64 a0, .int .i64 a1] w fun e w' => e = .returned (.bool r) ∧ Drawn0 w w' := by
 have H : (if a0 ≤ 1099511627776 then (if a0 ≥ (-1099511627776) then (if a1 ≤ 1099511627776 then (some (decide (a1 ≥ (-1099511627776)))) else (some false)) else (some false)) else (some false)) = some r := h
 clear h
 by_cases c3 : a0 ≤ 1099511627776
 ·
  rw [if_pos c3] at H
  have c3b0 : decide (a0 ≤ 1099511627776) = true := decide_eq_true c3
  clear c3
  by_cases c4 : a0 ≥ (-1099511627776)
  ·
   rw [if_pos c4] at H
   have c4b0 : decide ((-1099511627776) ≤ a0) = true := decide_eq_true c4
   clear c4
   by_cases c5 : a1 ≤ 1099511627776
   ·
    rw [if_pos c5] at H
    have c5b0 : decide (a1 ≤ 1099511627776) = true := decide_eq_true c5
    clear c5
    obtain rfl := Option.some.inj H
    go_enter Tryd.func67, Tryd.ntmps67
    go_wp2
    go_ret
    exact ⟨by first | rfl | (simp; done) | (simp [*]; done), by repeat (first | exact Drawn0.refl _ | apply Drawn0.step)⟩
   ·
    rw [if_neg c5] at H
    have c5b0 : decide (a1 ≤ 1099511627776) = false := decide_eq_false c5
    clear c5
    obtain rfl := Option.some.inj H
    go_enter Tryd.func67, Tryd.ntmps67
    go_wp2
    go_ret
    exact ⟨by first | rfl | (simp; done) | (simp [*]; done), by repeat (first | exact Drawn0.refl _ | apply Drawn0.step)⟩
  ·
   rw [if_neg c4] at H
   have c4b0 : decide ((-1099511627776) ≤ a0) = false := decide_eq_false c4
   clear c4
   obtain rfl := Option.some.inj H
   go_enter Tryd.func67, Tryd.ntmps67
   go_wp2
   go_ret
   exact ⟨by first | rfl | (simp; done) | (simp [*]; done), by repeat (first | exact Drawn0.refl _ | apply Drawn0.step)⟩
 ·
  rw [if_neg c3] at H
  have c3b0 : decide (a0 ≤ 1099511627776) = false := decide_eq_false c3
  clear c3
  obtain rfl := Option.some.inj H
  go_enter Tryd.func67, Tryd.ntmps67
  go_wp2
  go_ret
  exact ⟨by first | rfl | (simp; done) | (simp [*]; done), by repeat (first | exact Drawn0.refl _ | apply Drawn0.step)⟩
def slices_Equal_cell.l0 : Nat → List (S65) → List (S65) → Int → Int → Option (Bool)
 | 0, _, _, _, _ => none
 | k + 1, x0, x1, x12, x13 => if x13 < x12 then (if 0 ≤ x13 then (if x13 < (x0.length : Int) then (if x13 < (x1.length : Int) then (if ((!(((rd_T65 x0 x13).f0.f0) == ((rd_T65 x1 x13).f0.f0)) || (!(((rd_T65 x0 x13).f0.f1) == ((rd_T65 x1 x13).f0.f1)))) || (!(((rd_T65 x0 x13).f1) == ((rd_T65 x1 x13).f1)))) = true then (some false) else (slices_Equal_cell.l0 k x0 x1 x12 (wrap64 (x13 + 1)))) else (none)) else (none)) else (none)) else (some true)
def slices_Equal_cell.f (k : Nat) (l0 : List (S65)) (l1 : List (S65)) : Option (Bool) := if (l0.length : Int) = (l1.length : Int) then (slices_Equal_cell.l0 k l0 l1 (l0.length : Int) 0) else (some false)
theorem slices_Equal_cell.mono_l : ∀ k, (∀ y0 y1 y2 y3, LeO (slices_Equal_cell.l0 k y0 y1 y2 y3) (slices_Equal_cell.l0 (k + 1) y0 y1 y2 y3))
 | 0 => fun _ _ _ _ r h => by simp [slices_Equal_cell.l0] at h
 | k + 1 => by
  have ih0 := slices_Equal_cell.mono_l k
  ·
   intro y0 y1 y2 y3
   unfold slices_Equal_cell.l0
   repeat' first
   | (with_reducible exact ih0 _ _ _ _)
   | (with_reducible exact LeO.refl _)
   | (with_reducible exact LeO.none _)
   | (with_reducible refine LeO.ite ?_ ?_)
   | (with_reducible refine LeO.bind ?_ (fun _ => ?_))
   | exact ih0 _ _ _ _
   | exact LeO.none _
   | refine LeO.ite ?_ ?_
   | refine LeO.bind ?_ (fun _ => ?_)
theorem slices_Equal_cell.mono : ∀ a0 a1 k, LeO (slices_Equal_cell.f k a0 a1) (slices_Equal_cell.f (k + 1) a0 a1) := by
 intro a0 a1 k
 have ih0 := slices_Equal_cell.mono_l k
 unfold slices_Equal_cell.f
 repeat' first
   | (with_reducible exact ih0 _ _ _ _)
   | (with_reducible exact LeO.refl _)
   | (with_reducible exact LeO.none _)
   | (with_reducible refine LeO.ite ?_ ?_)
   | (with_reducible refine LeO.bind ?_ (fun _ => ?_))
   | exact ih0 _ _ _ _
   | exact LeO.none _
   | refine LeO.ite ?_ ?_
   | refine LeO.bind ?_ (fun _ => ?_)
set_option maxHeartbeats 8000000 in
set_option maxRecDepth 100000 in
theorem slices_Equal_cell.calls (k : Nat) (A0 : Option Addr) (c0 : Nat) (l0 : List (S65)) (A1 : Option Addr) (c1 : Nat) (l1 : List (S65)) (r : Bool) (w : World) (hr0 : Kd.C k65 w A0 l0.length l0) (hc0 : l0.length ≤ c0) (hr1 : Kd.C k65 w A1 l1.length l1) (hc1 : l1.length ≤ c1) (h : slices_Equal_cell.f k l0 l1 = some r) :
  Calls Tryd.prog 77 #[.slice A0 l0.length c0, .slice A1 l1.length c1] w fun e w' => e = .returned (.bool r) ∧ Drawn0 w w' := by
 have hu65 := Tryd.underlying65
 have HR0 := Aside0.mk hr0
 have HC0 := Aside0.mk hc0
 clear hr0 hc0
 have HR1 := Aside0.mk hr1
 have HC1 := Aside0.mk hc1
 clear hr1 hc1
 have H : (if (l0.length : Int) = (l1.length : Int) then (slices_Equal_cell.l0 k l0 l1 (l0.length : Int) 0) else (some false)) = some r := h
 clear h
 by_cases c3 : (l0.length : Int) = (l1.length : Int)
 ·
  rw [if_pos c3] at H
  have c3b0 : ((l0.length : Int) == (l1.length : Int)) = true := beq_iff_eq.mpr c3
  have c3b1 : ((l0.length : Int) != (l1.length : Int)) = false := bne_eq_false_iff_eq.mpr c3
  have c3b2 : (l0.length == l1.length) = true := by first | simpa using c3 | (simp at c3 ⊢; omega)
  clear c3
  have H' := Aside0.mk H
  clear H
  go_enter Tryd.func77, Tryd.ntmps77
  go_wp2
  repeat (go_quiet (fail); try go_wp2)
  go_loopg [13] k (fun kq v13 w' => ∃ (x13_1 : Int), v13 = .int .i64 x13_1 ∧ Aside0 (slices_Equal_cell.l0 kq l0 l1 (l0.length : Int) x13_1 = some r) ∧ Aside0 (kq ≤ k) ∧ Drawn0 w w')
  case atStart => exact ⟨(0), (by first | rfl | (simp; done) | (simp [*]; done)), H', ⟨Nat.le_refl _⟩, by repeat (first | exact Drawn0.refl _ | apply Drawn0.step)⟩
  case round =>
   clear H'
   try clear c1
   try clear p2
   try clear c3
   try clear c3b0
   try clear c3b1
   try clear c3b2
   obtain ⟨x13_1, rfl, HA, HK1, ⟨m1, rfl⟩⟩ := hrel
   cases gk with
   | zero => exact absurd HA.out (by simp [slices_Equal_cell.l0])
   | succ k1 =>
    have H := HA.out
    clear HA
    simp only [slices_Equal_cell.l0] at H
    by_cases c4 : x13_1 < (l0.length : Int)
    ·
     rw [if_pos c4] at H
     have c4b0 : decide (x13_1 < (l0.length : Int)) = true := decide_eq_true c4
     clear c4
     by_cases c5 : 0 ≤ x13_1
     ·
      rw [if_pos c5] at H
      have c5b0 : decide (0 ≤ x13_1) = true := decide_eq_true c5
      clear c5
      by_cases c6 : x13_1 < (l0.length : Int)
      ·
       rw [if_pos c6] at H
       have c6b0 : decide (x13_1 < (l0.length : Int)) = true := decide_eq_true c6
       clear c6
       by_cases c7 : x13_1 < (l1.length : Int)
       ·
        rw [if_pos c7] at H
        have c7b0 : decide (x13_1 < (l1.length : Int)) = true := decide_eq_true c7
        clear c7
        by_cases c8 : ((!(((rd_T65 l0 x13_1).f0.f0) == ((rd_T65 l1 x13_1).f0.f0)) || (!(((rd_T65 l0 x13_1).f0.f1) == ((rd_T65 l1 x13_1).f0.f1)))) || (!(((rd_T65 l0 x13_1).f1) == ((rd_T65 l1 x13_1).f1)))) = true
        ·
         rw [if_pos c8] at H
         have c8b0 : ((!(((rd_T65 l0 x13_1).f0.f0) == ((rd_T65 l1 x13_1).f0.f0)) || (!(((rd_T65 l0 x13_1).f0.f1) == ((rd_T65 l1 x13_1).f0.f1)))) || (!(((rd_T65 l0 x13_1).f1) == ((rd_T65 l1 x13_1).f1)))) = true := c8
         clear c8
         obtain rfl := Option.some.inj H
         have p610 : 0 ≤ (x13_1 : Int) := of_decide_eq_true (by first | (with_reducible assumption) | assumption)
         have q610 : x13_1 < (l0.length : Int) := of_decide_eq_true (by first | (with_reducible assumption) | assumption)
         obtain ⟨ad610, e610, hx610_0, hx610_1, hx610_2⟩ := at_T65 HR0.out x13_1 p610 q610
         cases e610
         replace p610 := eq_true p610
         replace q610 := eq_true q610
         have p611 : 0 ≤ (x13_1 : Int) := of_decide_eq_true (by first | (with_reducible assumption) | assumption)
         have q611 : x13_1 < (l1.length : Int) := of_decide_eq_true (by first | (with_reducible assumption) | assumption)
         obtain ⟨ad611, e611, hx611_0, hx611_1, hx611_2⟩ := at_T65 HR1.out x13_1 p611 q611
         cases e611
         replace p611 := eq_true p611
         replace q611 := eq_true q611
         go_wp2
         repeat (go_quiet (fail); try go_wp2)
         go_ret
         exact ⟨by first | rfl | (simp; done) | (simp [*]; done), by repeat (first | exact Drawn0.refl _ | apply Drawn0.step)⟩
        ·
         rw [if_neg c8] at H
         have c8b0 : ((!(((rd_T65 l0 x13_1).f0.f0) == ((rd_T65 l1 x13_1).f0.f0)) || (!(((rd_T65 l0 x13_1).f0.f1) == ((rd_T65 l1 x13_1).f0.f1)))) || (!(((rd_T65 l0 x13_1).f1) == ((rd_T65 l1 x13_1).f1)))) = false := by simpa using c8
         clear c8
         have H' := Aside0.mk H
         clear H
         have p610 : 0 ≤ (x13_1 : Int) := of_decide_eq_true (by first | (with_reducible assumption) | assumption)
         have q610 : x13_1 < (l0.length : Int) := of_decide_eq_true (by first | (with_reducible assumption) | assumption)
         obtain ⟨ad610, e610, hx610_0, hx610_1, hx610_2⟩ := at_T65 HR0.out x13_1 p610 q610
         cases e610
         replace p610 := eq_true p610
         replace q610 := eq_true q610
         have p611 : 0 ≤ (x13_1 : Int) := of_decide_eq_true (by first | (with_reducible assumption) | assumption)
         have q611 : x13_1 < (l1.length : Int) := of_decide_eq_true (by first | (with_reducible assumption) | assumption)
         obtain ⟨ad611, e611, hx611_0, hx611_1, hx611_2⟩ := at_T65 HR1.out x13_1 p611 q611
         cases e611
         replace p611 := eq_true p611
         replace q611 := eq_true q611
         go_wp2
         repeat (go_quiet (fail); try go_wp2)
         go_roundg k1
         case measure => have := HK1.out; omega
         case rel => exact ⟨(wrap64 (x13_1 + 1)), (by first | rfl | (simp; done) | (simp [*]; done)), H', ⟨by have := HK1.out; omega⟩, by repeat (first | exact Drawn0.refl _ | apply Drawn0.step)⟩
       ·
        rw [if_neg c7] at H
        exact absurd H (by simp)
      ·
       rw [if_neg c6] at H
       exact absurd H (by simp)
     ·
      rw [if_neg c5] at H
      exact absurd H (by simp)
    ·
     rw [if_neg c4] at H
     have c4b0 : decide (x13_1 < (l0.length : Int)) = false := decide_eq_false c4
     clear c4
     obtain rfl := Option.some.inj H
     go_wp2
     repeat (go_quiet (fail); try go_wp2)
     go_ret
     exact ⟨by first | rfl | (simp; done) | (simp [*]; done), by repeat (first | exact Drawn0.refl _ | apply Drawn0.step)⟩
 ·
  rw [if_neg c3] at H
  have c3b0 : ((l0.length : Int) == (l1.length : Int)) = false := beq_eq_false_iff_ne.mpr c3
  have c3b1 : ((l0.length : Int) != (l1.length : Int)) = true := bne_iff_ne.mpr c3
  have c3b2 : (l0.length == l1.length) = false := by first | simpa using c3 | (simp at c3 ⊢; omega)
  obtain rfl := Option.some.inj H
  go_enter Tryd.func77, Tryd.ntmps77
  go_wp2
  repeat (go_quiet (fail); try go_wp2)
  go_ret
  exact ⟨by first | rfl | (simp; done) | (simp [*]; done), by repeat (first | exact Drawn0.refl _ | apply Drawn0.step)⟩
def set_Set_Same.f (k : Nat) (l0 : List (S65)) (l1 : List (S65)) : Option (Bool) := (slices_Equal_cell.f k l0 l1).bind fun t612 => (some t612)
theorem set_Set_Same.mono : ∀ a0 a1 k, LeO (set_Set_Same.f k a0 a1) (set_Set_Same.f (k + 1) a0 a1) := by
 intro a0 a1 k
 unfold set_Set_Same.f
 repeat' first
   | (with_reducible exact slices_Equal_cell.mono _ _ _)
   | (with_reducible exact LeO.refl _)
   | (with_reducible exact LeO.none _)
   | (with_reducible refine LeO.ite ?_ ?_)
   | (with_reducible refine LeO.bind ?_ (fun _ => ?_))
   | exact slices_Equal_cell.mono _ _ _
   | exact LeO.none _
   | refine LeO.ite ?_ ?_
   | refine LeO.bind ?_ (fun _ => ?_)
set_option maxHeartbeats 8000000 in
set_option maxRecDepth 100000 in
theorem set_Set_Same.calls (k : Nat) (A0 : Option Addr) (c0 : Nat) (l0 : List (S65)) (A1 : Option Addr) (c1 : Nat) (l1 : List (S65)) (r : Bool) (w : World) (hr0 : Kd.C k65 w A0 l0.length l0) (hc0 : l0.length ≤ c0) (hr1 : Kd.C k65 w A1 l1.length l1) (hc1 : l1.length ≤ c1) (h : set_Set_Same.f k l0 l1 = some r) :
  Calls Tryd.prog 38 #[.slice A0 l0.length c0, .slice A1 l1.length c1] w fun e w' => e = .returned (.bool r) ∧ Drawn0 w w' := by
 have HR0 := Aside0.mk hr0
 have HC0 := Aside0.mk hc0
 clear hr0 hc0
 have HR1 := Aside0.mk hr1
 have HC1 := Aside0.mk hc1
 clear hr1 hc1
 have H : ((slices_Equal_cell.f k l0 l1).bind fun t612 => (some t612)) = some r := h
 clear h
 replace H := Option.bind_eq_some_iff.mp H
 obtain ⟨t612, A30, H⟩ := H
 replace H : (some t612) = some r := H
 have A3 := Aside0.mk A30
 clear A30
 obtain rfl := Option.some.inj H
 go_enter Tryd.func38, Tryd.ntmps38
 go_wp2_with (first | ((with_reducible refine gate_callee (f := 77) rfl ?_); refine goesL_ (some 7) rfl rfl Tryd.func77 (by kernel_rfl) rfl #[.slice A0 l0.length c0, .slice A1 l1.length c1] rfl (by (try simp only [List.map_toArray, List.map_cons, List.map_nil]); first | done | rfl | (simp only [List.length_drop, List.length_take]; rfl)) ?_; (with_reducible refine (slices_Equal_cell.calls k _ _ l0 _ _ l1 t612 _ ?side1 ?side2 ?side3 ?side4 A3.out).mono ?_); (case side1 => repeat (first | exact HR0.out | (with_reducible refine Kd.C_alloc ?_ _) | (with_reducible refine Kd.C_drewN ?_ _) | (with_reducible refine Kd.C_drew ?_))); (case side2 => exact HC0.out); (case side3 => repeat (first | exact HR1.out | (with_reducible refine Kd.C_alloc ?_ _) | (with_reducible refine Kd.C_drewN ?_ _) | (with_reducible refine Kd.C_drew ?_))); (case side4 => exact HC1.out); rintro e w' ⟨rfl, ⟨nd, rfl⟩⟩; refine ⟨_, rfl, ?_⟩))
 go_ret
 exact ⟨by first | rfl | (simp; done) | (simp [*]; done), by repeat (first | exact Drawn0.refl _ | apply Drawn0.step)⟩
mutual
def honeycombref03_Check.j0 : Nat → Int → Bool → Int → Int → Int → Option (Int)
 | 0, _, _, _, _, _ => none
 | k + 1, x0, x5, x715000, x715001, x715002 => if x5 = true then (some 11) else (if x715002 < 0 then (honeycombref03_Check.j1 k true x715000 x715001 x715002) else (if x715002 > 1 then (honeycombref03_Check.j1 k true x715000 x715001 x715002) else (if x0 = 1 then (honeycombref03_Check.j1 k (decide (x715002 > 0)) x715000 x715001 x715002) else (honeycombref03_Check.j1 k false x715000 x715001 x715002))))
def honeycombref03_Check.j1 : Nat → Bool → Int → Int → Int → Option (Int)
 | 0, _, _, _, _ => none
 | k + 1, x12, x715000, x715001, x715002 => if x12 = true then (some 4) else ((honeycombref01_Good.f x715000 x715001).bind fun t715 => (if t715 = true then (some 0) else (some 6)))
end
def honeycombref03_Check.f (k : Nat) (a0 : Int) (a1_0 : Int) (a1_1 : Int) (a1_2 : Int) : Option (Int) := if a0 < 1 then (honeycombref03_Check.j0 k a0 true a1_0 a1_1 a1_2) else (honeycombref03_Check.j0 k a0 (decide (a0 > 3)) a1_0 a1_1 a1_2)
theorem honeycombref03_Check.mono_l : ∀ k, (∀ y0 y1 y2 y3 y4, LeO (honeycombref03_Check.j0 k y0 y1 y2 y3 y4) (honeycombref03_Check.j0 (k + 1) y0 y1 y2 y3 y4)) ∧ (∀ y0 y1 y2 y3, LeO (honeycombref03_Check.j1 k y0 y1 y2 y3) (honeycombref03_Check.j1 (k + 1) y0 y1 y2 y3))
 | 0 => ⟨fun _ _ _ _ _ r h => by simp [honeycombref03_Check.j0] at h, fun _ _ _ _ r h => by simp [honeycombref03_Check.j1] at h⟩
 | k + 1 => by
  obtain ⟨ih0, ih1⟩ := honeycombref03_Check.mono_l k
  refine ⟨?_, ?_⟩
  ·
   intro y0 y1 y2 y3 y4
   unfold honeycombref03_Check.j0
   repeat' first
   | (with_reducible exact ih0 _ _ _ _ _)
   | (with_reducible exact ih1 _ _ _ _)
   | (with_reducible exact LeO.refl _)
   | (with_reducible exact LeO.none _)
   | (with_reducible refine LeO.ite ?_ ?_)
   | (with_reducible refine LeO.bind ?_ (fun _ => ?_))
   | exact ih0 _ _ _ _ _
   | exact ih1 _ _ _ _
   | exact LeO.none _
   | refine LeO.ite ?_ ?_
   | refine LeO.bind ?_ (fun _ => ?_)
  ·
   intro y0 y1 y2 y3
   unfold honeycombref03_Check.j1
   repeat' first
   | (with_reducible exact ih0 _ _ _ _ _)
   | (with_reducible exact ih1 _ _ _ _)
   | (with_reducible exact LeO.refl _)
   | (with_reducible exact LeO.none _)
   | (with_reducible refine LeO.ite ?_ ?_)
   | (with_reducible refine LeO.bind ?_ (fun _ => ?_))
   | exact ih0 _ _ _ _ _
   | exact ih1 _ _ _ _
   | exact LeO.none _
   | refine LeO.ite ?_ ?_
   | refine LeO.bind ?_ (fun _ => ?_)
theorem honeycombref03_Check.mono : ∀ a0 a1 a2 a3 k, LeO (honeycombref03_Check.f k a0 a1 a2 a3) (honeycombref03_Check.f (k + 1) a0 a1 a2 a3) := by
 intro a0 a1 a2 a3 k
 obtain ⟨ih0, ih1⟩ := honeycombref03_Check.mono_l k
 unfold honeycombref03_Check.f
 repeat' first
   | (with_reducible exact ih0 _ _ _ _ _)
   | (with_reducible exact ih1 _ _ _ _)
   | (with_reducible exact LeO.refl _)
   | (with_reducible exact LeO.none _)
   | (with_reducible refine LeO.ite ?_ ?_)
   | (with_reducible refine LeO.bind ?_ (fun _ => ?_))
   | exact ih0 _ _ _ _ _
   | exact ih1 _ _ _ _
   | exact LeO.none _
   | refine LeO.ite ?_ ?_
   | refine LeO.bind ?_ (fun _ => ?_)
set_option maxHeartbeats 8000000 in
set_option maxRecDepth 100000 in
theorem honeycombref03_Check.calls (k : Nat) (a0 : Int) (a1_0 : Int) (a1_1 : Int) (a1_2 : Int) (r : Int) (w : World) (h : honeycombref03_Check.f k a0 a1_0 a1_1 a1_2 = some r) :
  Calls Tryd.prog 83 #[.int .i64 a0, .agg #[.int .i64 a1_0, .int .i64 a1_1, .int .i64 a1_2]] w fun e w' => e = .returned (.int .i64 r) ∧ Below w.heap.size w w' := by
 have hu60 := Tryd.underlying60
 have HB := Aside0.mk (Below.refl w.heap.size w)
 have H : (if a0 < 1 then (honeycombref03_Check.j0 k a0 true a1_0 a1_1 a1_2) else (honeycombref03_Check.j0 k a0 (decide (a0 > 3)) a1_0 a1_1 a1_2)) = some r := h
 clear h
 have HC3 := Aside0.mk H
 clear H
 go_enter Tryd.func83, Tryd.ntmps83
 go_upto_region 1 with (first | ((with_reducible refine gate_dst (N := 3) rfl ?_); refine box_event ?hg (N := 3) ?hd (cs := #[.int .i64 a1_0, .int .i64 a1_1, .int .i64 a1_2]) (t := 60) ?hr ?_; (case hd => rfl); (case hg => rfl); (case hr => first | (go_simp; done) | (go_simp; rfl)); intro gb714 hg w4 hbox hb; have n0_ := Aside0.mk (below_step (by repeat (first | (with_reducible first | exact HB.out | apply ba_ | apply bn_ | apply bd_) | exact HB.out)) hb); have n1_ := Aside0.mk (hbox); have n2_ := Aside0.mk ((by rw [hg]; exact (below_size (by repeat (first | (with_reducible first | exact HB.out | apply ba_ | apply bn_ | apply bd_) | exact HB.out))) : w.heap.size ≤ gb714)); have n3_ := Aside0.mk ((by rw [hg]; exact (below_size (by repeat (first | (with_reducible first | exact HB.out | apply ba_ | apply bn_ | apply bd_) | exact HB.out))) : w.heap.size ≤ gb714)); clear HB; have HB := n0_; have BK714 := n1_; have GW714 := n2_; have GE714 := n3_; clear n0_ n1_ n2_ n3_; clear hb hbox hg))
 (try simp only [Act.put, List.setIfInBounds_toArray, List.set_cons_zero, List.set_cons_succ])
 go_cut [5] (fun v5 wc => ∃ (kq : Nat) (x5_2 : Bool), v5 = .bool x5_2 ∧ Aside0 (honeycombref03_Check.j0 kq a0 x5_2 a1_0 a1_1 a1_2 = some r) ∧ Aside0 (kq ≤ k) ∧ Aside0 (wc.heap[gb714]? = some (.cells #[.int .i64 a1_0, .int .i64 a1_1, .int .i64 a1_2] 60 (0, 0))) ∧ Aside0 (Below w.heap.size w wc))
 case first =>
  have H := HC3.out
  clear HC3
  by_cases c5 : a0 < 1
  ·
   rw [if_pos c5] at H
   have c5b0 : decide (a0 < 1) = true := decide_eq_true c5
   clear c5
   (first | rw [c5b0] | (simp only [i64_w, i32_w]; rw [c5b0]) | skip)
   have H' := Aside0.mk H
   clear H
   go_wp2
   go_meet
   case rel => exact ⟨_, (true), (by first | rfl | (simp; done) | (simp [*]; done)), H', ⟨by first | omega | exact Nat.le_refl _⟩, ⟨by (with_reducible repeat (first | apply bN_ | apply bD_ | apply bA_)); exact BK714.out⟩, ⟨by repeat (first | (with_reducible first | exact HB.out | apply ba_ | apply bn_ | apply bd_ | refine below_set ?_ GE714.out) | exact HB.out)⟩⟩
  ·
   rw [if_neg c5] at H
   have c5b0 : decide (a0 < 1) = false := decide_eq_false c5
   clear c5
   (first | rw [c5b0] | (simp only [i64_w, i32_w]; rw [c5b0]) | skip)
   have H' := Aside0.mk H
   clear H
   go_wp2
   go_meet
   case rel => exact ⟨_, (decide (a0 > 3)), (by first | rfl | (simp; done) | (simp [*]; done)), H', ⟨by first | omega | exact Nat.le_refl _⟩, ⟨by (with_reducible repeat (first | apply bN_ | apply bD_ | apply bA_)); exact BK714.out⟩, ⟨by repeat (first | (with_reducible first | exact HB.out | apply ba_ | apply bn_ | apply bd_ | refine below_set ?_ GE714.out) | exact HB.out)⟩⟩
 case rest =>
  clear HC3
  try clear p2
  try clear c5
  try clear c5b0
  obtain ⟨kq, x5_2, rfl, HA, HJ2, BK714, HB⟩ := hcut
  cases kq with
  | zero => exact absurd HA.out (by simp [honeycombref03_Check.j0])
  | succ kj2 =>
   have H := HA.out
   clear HA
   simp only [honeycombref03_Check.j0] at H
   by_cases c6 : x5_2 = true
   ·
    subst c6
    have H1 : (some 11) = some r := by rw [if_pos rfl] at H; exact H
    clear H
    have H := H1
    clear H1
    obtain rfl := Option.some.inj H
    go_wp2
    go_ret
    exact ⟨by first | rfl | (simp [errW_none, errW_some] <;> rfl) | (simp [*, errW_none, errW_some] <;> rfl), by repeat (first | (with_reducible first | exact HB.out | apply ba_ | apply bn_ | apply bd_ | refine below_set ?_ GE714.out) | exact HB.out)⟩
   ·
    replace c6 := Bool.eq_false_iff.mpr c6
    subst c6
    have H1 : (if a1_2 < 0 then (honeycombref03_Check.j1 kj2 true a1_0 a1_1 a1_2) else (if a1_2 > 1 then (honeycombref03_Check.j1 kj2 true a1_0 a1_1 a1_2) else (if a0 = 1 then (honeycombref03_Check.j1 kj2 (decide (a1_2 > 0)) a1_0 a1_1 a1_2) else (honeycombref03_Check.j1 kj2 false a1_0 a1_1 a1_2)))) = some r := by rw [if_neg (show ¬ (false = true) by decide)] at H; exact H
    clear H
    have H := H1
    clear H1
    have HC7 := Aside0.mk H
    clear H
    go_upto_region 3 with (fail)
    go_cut [12] (fun v12 wc => ∃ (kq : Nat) (x12_6 : Bool), v12 = .bool x12_6 ∧ Aside0 (honeycombref03_Check.j1 kq x12_6 a1_0 a1_1 a1_2 = some r) ∧ Aside0 (kq ≤ kj2) ∧ Aside0 (wc.heap[gb714]? = some (.cells #[.int .i64 a1_0, .int .i64 a1_1, .int .i64 a1_2] 60 (0, 0))) ∧ Aside0 (Below w.heap.size w wc))
    case first =>
     have H := HC7.out
     clear HC7
     by_cases c8 : a1_2 < 0
     ·
      rw [if_pos c8] at H
      have c8b0 : decide (a1_2 < 0) = true := decide_eq_true c8
      clear c8
      (first | rw [c8b0] | (simp only [i64_w, i32_w]; rw [c8b0]) | skip)
      have H' := Aside0.mk H
      clear H
      have hcz9_0 : wc.cell? ⟨gb714, 0, none⟩ = some (.int .i64 a1_0) := (blk_cell BK714.out 0).trans rfl
      have hcz9_1 : wc.cell? ⟨gb714, 1, none⟩ = some (.int .i64 a1_1) := (blk_cell BK714.out 1).trans rfl
      have hcz9_2 : wc.cell? ⟨gb714, 2, none⟩ = some (.int .i64 a1_2) := (blk_cell BK714.out 2).trans rfl
      have hfz9_0 := blk_frozen BK714.out 0
      have hfz9_1 := blk_frozen BK714.out 1
      have hfz9_2 := blk_frozen BK714.out 2
      go_wp2
      go_meet
      case rel => exact ⟨_, (true), (by first | rfl | (simp; done) | (simp [*]; done)), H', ⟨by have := HJ2.out; first | omega | exact Nat.le_refl _⟩, ⟨by (with_reducible repeat (first | apply bN_ | apply bD_ | apply bA_)); exact BK714.out⟩, ⟨by repeat (first | (with_reducible first | exact HB.out | apply ba_ | apply bn_ | apply bd_ | refine below_set ?_ GE714.out) | exact HB.out)⟩⟩
     ·
      rw [if_neg c8] at H
      have c8b0 : decide (a1_2 < 0) = false := decide_eq_false c8
      clear c8
      (first | rw [c8b0] | (simp only [i64_w, i32_w]; rw [c8b0]) | skip)
      by_cases c10 : a1_2 > 1
      ·
       rw [if_pos c10] at H
       have c10b0 : decide (1 < a1_2) = true := decide_eq_true c10
       clear c10
       have H' := Aside0.mk H
       clear H
       have hcz11_0 : wc.cell? ⟨gb714, 0, none⟩ = some (.int .i64 a1_0) := (blk_cell BK714.out 0).trans rfl
       have hcz11_1 : wc.cell? ⟨gb714, 1, none⟩ = some (.int .i64 a1_1) := (blk_cell BK714.out 1).trans rfl
       have hcz11_2 : wc.cell? ⟨gb714, 2, none⟩ = some (.int .i64 a1_2) := (blk_cell BK714.out 2).trans rfl
       have hfz11_0 := blk_frozen BK714.out 0
       have hfz11_1 := blk_frozen BK714.out 1
       have hfz11_2 := blk_frozen BK714.out 2
       go_wp2
       go_meet
       case rel => exact ⟨_, (true), (by first | rfl | (simp; done) | (simp [*]; done)), H', ⟨by have := HJ2.out; first | omega | exact Nat.le_refl _⟩, ⟨by (with_reducible repeat (first | apply bN_ | apply bD_ | apply bA_)); exact BK714.out⟩, ⟨by repeat (first | (with_reducible first | exact HB.out | apply ba_ | apply bn_ | apply bd_ | refine below_set ?_ GE714.out) | exact HB.out)⟩⟩
      ·
       rw [if_neg c10] at H
       have c10b0 : decide (1 < a1_2) = false := decide_eq_false c10
       clear c10
       by_cases c12 : a0 = 1
       ·
        rw [if_pos c12] at H
        have c12b0 : (a0 == 1) = true := beq_iff_eq.mpr c12
        have c12b1 : (a0 != 1) = false := bne_eq_false_iff_eq.mpr c12
        clear c12
        have H' := Aside0.mk H
        clear H
        have hcz13_0 : wc.cell? ⟨gb714, 0, none⟩ = some (.int .i64 a1_0) := (blk_cell BK714.out 0).trans rfl
        have hcz13_1 : wc.cell? ⟨gb714, 1, none⟩ = some (.int .i64 a1_1) := (blk_cell BK714.out 1).trans rfl
        have hcz13_2 : wc.cell? ⟨gb714, 2, none⟩ = some (.int .i64 a1_2) := (blk_cell BK714.out 2).trans rfl
        have hfz13_0 := blk_frozen BK714.out 0
        have hfz13_1 := blk_frozen BK714.out 1
        have hfz13_2 := blk_frozen BK714.out 2
        go_wp2
        go_meet
        case rel => exact ⟨_, (decide (a1_2 > 0)), (by first | rfl | (simp; done) | (simp [*]; done)), H', ⟨by have := HJ2.out; first | omega | exact Nat.le_refl _⟩, ⟨by (with_reducible repeat (first | apply bN_ | apply bD_ | apply bA_)); exact BK714.out⟩, ⟨by repeat (first | (with_reducible first | exact HB.out | apply ba_ | apply bn_ | apply bd_ | refine below_set ?_ GE714.out) | exact HB.out)⟩⟩
       ·
        rw [if_neg c12] at H
        have c12b0 : (a0 == 1) = false := beq_eq_false_iff_ne.mpr c12
        have c12b1 : (a0 != 1) = true := bne_iff_ne.mpr c12
        have H' := Aside0.mk H
        clear H
        have hcz14_0 : wc.cell? ⟨gb714, 0, none⟩ = some (.int .i64 a1_0) := (blk_cell BK714.out 0).trans rfl
        have hcz14_1 : wc.cell? ⟨gb714, 1, none⟩ = some (.int .i64 a1_1) := (blk_cell BK714.out 1).trans rfl
        have hcz14_2 : wc.cell? ⟨gb714, 2, none⟩ = some (.int .i64 a1_2) := (blk_cell BK714.out 2).trans rfl
        have hfz14_0 := blk_frozen BK714.out 0
        have hfz14_1 := blk_frozen BK714.out 1
        have hfz14_2 := blk_frozen BK714.out 2
        go_wp2
        go_meet
        case rel => exact ⟨_, (false), (by first | rfl | (simp; done) | (simp [*]; done)), H', ⟨by have := HJ2.out; first | omega | exact Nat.le_refl _⟩, ⟨by (with_reducible repeat (first | apply bN_ | apply bD_ | apply bA_)); exact BK714.out⟩, ⟨by repeat (first | (with_reducible first | exact HB.out | apply ba_ | apply bn_ | apply bd_ | refine below_set ?_ GE714.out) | exact HB.out)⟩⟩
    case rest =>
     clear HC7
     try clear c1
     try clear p2
     try clear c5
     try clear c5b0
     try clear c6
     try clear c8
     try clear c8b0
     try clear c10
     try clear c10b0
     try clear c12
     try clear c12b0
     try clear c12b1
     try clear hcz11_0
     try clear hcz11_1
     try clear hcz11_2
     try clear hcz13_0
     try clear hcz13_1
     try clear hcz13_2
     try clear hcz14_0
     try clear hcz14_1
     try clear hcz14_2
     try clear hcz9_0
     try clear hcz9_1
     try clear hcz9_2
     try clear hfz11_0
     try clear hfz11_1
     try clear hfz11_2
     try clear hfz13_0
     try clear hfz13_1
     try clear hfz13_2
     try clear hfz14_0
     try clear hfz14_1
     try clear hfz14_2
     try clear hfz9_0
     try clear hfz9_1
     try clear hfz9_2
     try clear p2
     obtain ⟨kq, x12_6, rfl, HA, HJ6, BK714, HB⟩ := hcut
     cases kq with
     | zero => exact absurd HA.out (by simp [honeycombref03_Check.j1])
     | succ kj6 =>
      have H := HA.out
      clear HA
      simp only [honeycombref03_Check.j1] at H
      by_cases c15 : x12_6 = true
      ·
       subst c15
       have H1 : (some 4) = some r := by rw [if_pos rfl] at H; exact H
       clear H
       have H := H1
       clear H1
       obtain rfl := Option.some.inj H
       go_wp2
       go_ret
       exact ⟨by first | rfl | (simp [errW_none, errW_some] <;> rfl) | (simp [*, errW_none, errW_some] <;> rfl), by repeat (first | (with_reducible first | exact HB.out | apply ba_ | apply bn_ | apply bd_ | refine below_set ?_ GE714.out) | exact HB.out)⟩
      ·
       replace c15 := Bool.eq_false_iff.mpr c15
       subst c15
       have H1 : ((honeycombref01_Good.f a1_0 a1_1).bind fun t715 => (if t715 = true then (some 0) else (some 6))) = some r := by rw [if_neg (show ¬ (false = true) by decide)] at H; exact H
       clear H
       have H := H1
       clear H1
       replace H := Option.bind_eq_some_iff.mp H
       obtain ⟨t715, A160, H⟩ := H
       replace H : (if t715 = true then (some 0) else (some 6)) = some r := H
       have A16 := Aside0.mk A160
       clear A160
       by_cases c17 : t715 = true
       ·
        subst c17
        have H1 : (some 0) = some r := by rw [if_pos rfl] at H; exact H
        clear H
        have H := H1
        clear H1
        obtain rfl := Option.some.inj H
        have hcz18_0 : wc.cell? ⟨gb714, 0, none⟩ = some (.int .i64 a1_0) := (blk_cell BK714.out 0).trans rfl
        have hcz18_1 : wc.cell? ⟨gb714, 1, none⟩ = some (.int .i64 a1_1) := (blk_cell BK714.out 1).trans rfl
        have hcz18_2 : wc.cell? ⟨gb714, 2, none⟩ = some (.int .i64 a1_2) := (blk_cell BK714.out 2).trans rfl
        have hfz18_0 := blk_frozen BK714.out 0
        have hfz18_1 := blk_frozen BK714.out 1
        have hfz18_2 := blk_frozen BK714.out 2
        go_wp2_with (first | ((with_reducible refine gate_callee (f := 67) rfl ?_); refine goesL_ (some 35) rfl rfl Tryd.func67 (by kernel_rfl) rfl #[.int .i64 a1_0, .int .i64 a1_1] rfl (by (try simp only [List.map_toArray, List.map_cons, List.map_nil]); first | done | rfl | (simp only [List.length_drop, List.length_take]; rfl)) ?_; (with_reducible refine (honeycombref01_Good.calls a1_0 a1_1 true _ A16.out).mono ?_); rintro e w' ⟨rfl, ⟨nd, rfl⟩⟩; refine ⟨_, rfl, ?_⟩))
        go_ret
        exact ⟨by first | rfl | (simp [errW_none, errW_some] <;> rfl) | (simp [*, errW_none, errW_some] <;> rfl), by repeat (first | (with_reducible first | exact HB.out | apply ba_ | apply bn_ | apply bd_ | refine below_set ?_ GE714.out) | exact HB.out)⟩
       ·
        replace c17 := Bool.eq_false_iff.mpr c17
        subst c17
        have H1 : (some 6) = some r := by rw [if_neg (show ¬ (false = true) by decide)] at H; exact H
        clear H
        have H := H1
        clear H1
        obtain rfl := Option.some.inj H
        have hcz19_0 : wc.cell? ⟨gb714, 0, none⟩ = some (.int .i64 a1_0) := (blk_cell BK714.out 0).trans rfl
        have hcz19_1 : wc.cell? ⟨gb714, 1, none⟩ = some (.int .i64 a1_1) := (blk_cell BK714.out 1).trans rfl
        have hcz19_2 : wc.cell? ⟨gb714, 2, none⟩ = some (.int .i64 a1_2) := (blk_cell BK714.out 2).trans rfl
        have hfz19_0 := blk_frozen BK714.out 0
        have hfz19_1 := blk_frozen BK714.out 1
        have hfz19_2 := blk_frozen BK714.out 2
        go_wp2_with (first | ((with_reducible refine gate_callee (f := 67) rfl ?_); refine goesL_ (some 35) rfl rfl Tryd.func67 (by kernel_rfl) rfl #[.int .i64 a1_0, .int .i64 a1_1] rfl (by (try simp only [List.map_toArray, List.map_cons, List.map_nil]); first | done | rfl | (simp only [List.length_drop, List.length_take]; rfl)) ?_; (with_reducible refine (honeycombref01_Good.calls a1_0 a1_1 false _ A16.out).mono ?_); rintro e w' ⟨rfl, ⟨nd, rfl⟩⟩; refine ⟨_, rfl, ?_⟩))
        go_ret
        exact ⟨by first | rfl | (simp [errW_none, errW_some] <;> rfl) | (simp [*, errW_none, errW_some] <;> rfl), by repeat (first | (with_reducible first | exact HB.out | apply ba_ | apply bn_ | apply bd_ | refine below_set ?_ GE714.out) | exact HB.out)⟩
end Go.Proofs.YtaeenefdbahfoaaDoor.H
