/- Parts of the proof of IsoWitness, merged out of our texts by wip/tools/pack.py. -/
import Derived.Test.YtaeenefdbahfoaaDoorKIsoWitness1
import Derived.Test.YtaeenefdbahfoaaDoorKIsoWitness5
import Derived.Carry
import Derived.BigRegion
import Derived.Test.YtaeenefdbahfoaaDoorKIsoWitness6
import Derived.Test.YtaeenefdbahfoaaDoorKIsoWitness7
import Derived.Test.YtaeenefdbahfoaaDoorKIsoWitness4
import Derived.Test.YtaeenefdbahfoaaDoorKIsoWitness2
import Derived.Test.YtaeenefdbahfoaaDoorKIsoWitness3
import Derived.Test.YtaeenefdbahfoaaDoorKIsoWitness9
namespace Go.Proofs.YtaeenefdbahfoaaDoor
set_option linter.unusedSimpArgs false
set_option linter.unusedVariables false
set_option maxRecDepth 100000
set_option maxHeartbeats 16000000
open Go.RowKit Go.Proofs.YtaeenefdbahfoaaDoorW.PrintWords Go.Proofs.YtaeenefdbahfoaaDoorW.PrintLast Go.Proofs.YtaeenefdbahfoaaDoorW.PrintMore
open H
abbrev B4 := Int × Int × Int × Int
def boxStep (b : B4) (c : RC) : B4 := (min b.1 c.f0, min b.2.1 c.f1, max b.2.2.1 c.f0, max b.2.2.2 c.f1)
def boxOf (l : List RC) : B4 := l.foldl boxStep ((rd_T60 l 0).f0, (rd_T60 l 0).f1, (rd_T60 l 0).f0, (rd_T60 l 0).f1)
def rowP (b : B4) (i : Nat) (m : Nat) : List (List Int) := (List.range m).map fun j : Nat => [b.1 - 1 + (j : Int), b.2.1 - 1 + (i : Int)]
def placesL (b : B4) (n : Nat) : List (List Int) := (List.range n).flatMap fun i => rowP b i (b.2.2.1 - b.1 + 3).toNat
abbrev RO (a b : Int) : Obj := .cells #[.int .i64 a, .int .i64 b] 2 (0, 0)
theorem R_lit0 {α : Type} (d : Kd α) {W : World} (base e : Nat) {xs : List α} {inner : List Value} (hrep : Reps (d.M W base (fun _ => False)) d.sz xs inner) (hbase : base ≤ W.heap.size) (hm : xs.length ≤ 9223372036854775807) :
    d.R e (W.alloc (.cells inner.toArray e)) base (fun k => k = W.heap.size) (.slice (some ⟨W.heap.size, 0, none⟩) xs.length xs.length) xs := by
 refine ⟨fun k hk => ?_, inner, ?_, ?_⟩
 ·have : W.heap.size = k := by simpa [Value.ownBlock] using hk
  exact this.symm
 ·have h2 := World.ownsRow_lit (base := base) (e := e) (size := d.sz) W inner.toArray xs.length hbase (by simpa [maxLen] using hm) (by simpa using hrep.1)
  simpa using h2
 ·refine hrep.imp_ (fun p c hp => d.M_mono (fun k hk => hk.1.elim) (Kd.M_below (d.M_bound hp) (below_alloc (Below.refl _ _) _)))
theorem row_two {W : World} (base : Nat) (a b : Int) (hbase : base ≤ W.heap.size) : Kd.R (Kd.int .i64) 2 (W.alloc (RO a b)) base (fun k => k = W.heap.size) (.slice (some ⟨W.heap.size, 0, none⟩) 2 2) [a, b] :=
 R_lit0 (Kd.int .i64) base 2 (xs := [a, b]) (inner := [.int .i64 a, .int .i64 b]) (Reps.one (show Kd.M (Kd.int .i64) _ _ _ a [.int .i64 a] from rfl) (Reps.one (show Kd.M (Kd.int .i64) _ _ _ b [.int .i64 b] from rfl) (Reps.none _ _))) hbase (by simp)
theorem app1S {P : Program} {ops : Array Oper} {rest : List Oper} {o : Oper} {a : Act} {Q : Exit → Act → World → Prop} (ok : Nat → Prop) {α : Type} (d : Kd α) (base : Nat) (s x : Operand) (t e : TypeId) (z : Value) (bytes : Nat) {W : World} (v : Value) (xs : List α) (p : α) (cs : List Value) (B gr : Nat)
    (hgd : o.guard = none) (ho : o.op = .call { callee := .builtin .append, args := #[s, x], argTypes := #[t, t] })
    (ht : P.underlying t = some (.slice e)) (hinfo : (P.info? e).map (fun i => (i.zero, i.size, i.bytes)) = some (some z, d.sz, bytes)) (hz : z.cells.size = d.sz) (hs0 : 0 < d.sz) (hb0 : 0 < bytes)
    (hs : a.eval s = v) (hB : W.heap.size = B) (hx : a.eval x = .slice (some ⟨B, 0, none⟩) 1 1) (hp : d.M W base (fun k => k = gr) p cs)
    (hgr : ok gr ∧ some gr ≠ v.ownBlock) (hfresh : ∀ k, W.heap.size ≤ k → ok k) (HO : Kd.S d e W base (fun k => ok k ∧ ¬ k = gr) v xs) (hbase : base ≤ W.heap.size) (hl : (xs.length + 1) * bytes ≤ 140737488355328)
    (h : ∀ v1 w1, Kd.S d e w1 base ok v1 (xs ++ [p]) → Below base W w1 → (∀ k, k < W.heap.size → ¬ ok k → w1.heap[k]? = W.heap[k]?) → wpList P ops Q rest (a.put o.dst v1) w1) :
    wpList P ops Q (o :: rest) a (W.alloc (.cells cs.toArray e)) := by
 subst hB
 exact Kd.S_append d base hgd s x t e z bytes ho ht hinfo hz hs0 hb0 v xs p cs ok (fun k => k = gr) hs hx hp (fun k hk => by subst hk; exact hgr) hfresh HO (Below.refl _ _) hbase hl (fun v1 w1 h1 h2 h3 _ => h v1 w1 h1 h2 (fun k hk hnk => h3.block k hk (fun e => hnk ((Kd.S_R HO).1 k e.symm).1)))
theorem placesL_succ (p q r s : Int) (i m : Nat) (h : (m : Int) = r - p + 3) : placesL (p, q, r, s) (i + 1) = placesL (p, q, r, s) i ++ rowP (p, q, r, s) i m := by
 unfold placesL
 rw [List.range_succ, List.flatMap_append]
 simp only [List.flatMap_cons, List.flatMap_nil, List.append_nil]
 rw [show (r - p + 3).toNat = m by omega]
theorem placesL_len (p q r s : Int) (i : Nat) (h : r - p + 3 ≤ 63) (h0 : 0 ≤ r - p + 3) : (placesL (p, q, r, s) i).length ≤ i * 63 := by
 induction i with
 | zero => simp [placesL]
 | succ i ih =>
  obtain ⟨m, hm⟩ := Int.eq_ofNat_of_zero_le h0
  rw [placesL_succ p q r s i m hm.symm, List.length_append]
  have : (rowP (p, q, r, s) i m).length = m := by simp [rowP]
  omega
def rowI (p : Int × Int) : List Int := [p.1, p.2]
def insP (PP : List (Int × Int)) (p : Int × Int) : List (Int × Int) := if p ∈ PP then PP else PP ++ [p]
def colF (a b : Int) : Nat → List (Int × Int) → List (Int × Int)
 | 0, PP => PP
 | j + 1, PP => insP (colF a b j PP) (a, b + (j : Int))
def colsF (a b : Int) : Nat → List (Int × Int) → List (Int × Int)
 | 0, PP => PP
 | i + 1, PP => colF (a + (i : Int)) b 3 (colsF a b i PP)
def cellF (PP : List (Int × Int)) (c : RC) : List (Int × Int) := colsF (c.f0 - 1) (c.f1 - 1) 3 PP
theorem colsF_succ (a b : Int) (PP : List (Int × Int)) (i : Nat) : colsF a b (i + 1) PP = colF (a + (i : Int)) b 3 (colsF a b i PP) := by rw [colsF]
theorem colF_succ (a b : Int) (PP : List (Int × Int)) (j : Nat) : colF a b (j + 1) PP = insP (colF a b j PP) (a, b + (j : Int)) := by rw [colF]
theorem cellF_is (PP : List (Int × Int)) (c : RC) : cellF PP c = colsF (c.f0 - 1) (c.f1 - 1) 3 PP := by rw [cellF]
theorem insP_len (PP : List (Int × Int)) (p : Int × Int) : (insP PP p).length ≤ PP.length + 1 := by unfold insP; split <;> simp
theorem colF_len (a b : Int) (PP : List (Int × Int)) : ∀ j, (colF a b j PP).length ≤ PP.length + j
 | 0 => Nat.le_refl _
 | j + 1 => by have h1 := colF_len a b PP j; have h2 := insP_len (colF a b j PP) (a, b + (j : Int)); unfold colF; omega
theorem colsF_len (a b : Int) (PP : List (Int × Int)) : ∀ i, (colsF a b i PP).length ≤ PP.length + 3 * i
 | 0 => Nat.le_refl _
 | i + 1 => by have h1 := colsF_len a b PP i; have h2 := colF_len (a + (i : Int)) b (colsF a b i PP) 3; unfold colsF; omega
theorem foldF_len : ∀ (l : List RC) (PP : List (Int × Int)), (l.foldl cellF PP).length ≤ PP.length + 9 * l.length
 | [], PP => by simp
 | c :: l, PP => by have h1 := foldF_len l (cellF PP c); have h2 := colsF_len (c.f0 - 1) (c.f1 - 1) PP 3; rw [List.foldl_cons, List.length_cons]; unfold cellF at *; omega
theorem cell_same {w W : World} {b o : Nat} {v : Value} (h : w.cell? ⟨b, o, none⟩ = some v) (hb : W.heap[b]? = w.heap[b]?) : W.cell? ⟨b, o, none⟩ = some v := by
 simp only [World.cell?] at h ⊢
 rw [hb]
 exact h
theorem foldF_next (l : List RC) (PP : List (Int × Int)) (i : Nat) (hi : i < l.length) : (l.take (i + 1)).foldl cellF PP = cellF ((l.take i).foldl cellF PP) l[i] := by
 rw [List.take_add_one, List.getElem?_eq_getElem hi, List.foldl_append]
 simp only [Option.toList_some, List.foldl_cons, List.foldl_nil]
theorem row_here {w : World} {base : Nat} {ok : Nat → Prop} {A : Option Addr} {n cap : Nat} {PP : List (Int × Int)} (hS : Kd.S (Kd.slice 2 (Kd.int .i64)) 111 w base ok (.slice A n cap) (PP.map rowI)) (i : Nat) (hi : i < PP.length) :
    ∃ g b o c', A = some ⟨g, 0, none⟩ ∧ w.cell? ⟨g, i, none⟩ = some (.slice (some ⟨b, o, none⟩) 2 c') ∧ w.cell? ⟨b, o, none⟩ = some (.int .i64 PP[i].1) ∧ w.cell? ⟨b, o + 1, none⟩ = some (.int .i64 PP[i].2) := by
 obtain ⟨hn, hcap, hC⟩ := Kd.R_reads' (Kd.S_R hS)
 have hlen : (PP.map rowI).length = PP.length := List.length_map _
 obtain ⟨ad, A0, c0, rfl, hc, hl, hK⟩ := at_L10 hC (i : Int) (by omega) (by omega)
 obtain ⟨g, rfl⟩ := Kd.R_head (Kd.S_R hS)
 have hrd : rd_L10 (PP.map rowI) (i : Int) = [PP[i].1, PP[i].2] := by
  unfold rd_L10
  simp [List.getD, List.getElem?_eq_getElem hi, rowI]
 rw [hrd] at hc hK
 rw [add_at, Nat.zero_add, Int.toNat_natCast] at hc
 obtain ⟨ad0, x0, rfl, _, hx0, hy0⟩ := Kd.C_get hK 0 0 (by omega) (by simp)
 obtain ⟨ad1, x1, e1, _, hx1, hy1⟩ := Kd.C_get hK 0 1 (by omega) (by simp)
 injection e1 with e1
 subst e1
 have q0 := hy0 0 (.int .i64 PP[i].1) (by rw [hx0]; rfl)
 have q1 := hy1 0 (.int .i64 PP[i].2) (by rw [hx1]; rfl)
 obtain ⟨b, o, sp⟩ := ad0
 have hsp : sp = none := by
  cases sp with
  | none => rfl
  | some z => exfalso; simp only [World.cell?, Addr.add] at q0; split at q0 <;> simp at q0
 subst hsp
 exact ⟨g, b, o, c0, rfl, hc, q0, q1⟩
theorem places_any (l : List RC) (A0 : Option Addr) (c0 : Nat) (w : World) (hr : Kd.C k60 w A0 l.length l) (hc : l.length ≤ c0) (hl : 0 < l.length) (hn : l.length < 1099511627776)
    (b : B4) (hb : b = boxOf l) (hnf : (b.2.2.1 - b.1 < 60 ∧ b.2.2.2 - b.2.1 < 60) ∨ (l.length ≤ 1000 ∧ ∀ c ∈ l, (-1000000000 ≤ c.f0 ∧ c.f0 ≤ 1000000000) ∧ (-1000000000 ≤ c.f1 ∧ c.f1 ≤ 1000000000))) (hb1 : b.1 ≤ b.2.2.1) (hb2 : b.2.1 ≤ b.2.2.2) (hbd : -1000000000 ≤ b.1 ∧ b.2.2.1 ≤ 1000000000 ∧ -1000000000 ≤ b.2.1 ∧ b.2.2.2 ≤ 1000000000) :
    Calls Tryd.prog 62 #[.slice A0 l.length c0] w fun e w' => ∃ v, e = .returned v ∧ Kd.S (Kd.slice 2 (Kd.int .i64)) 111 w' w.heap.size (fun _ => True) v (if b.2.2.1 - b.1 < 60 ∧ b.2.2.2 - b.2.1 < 60 then placesL b (b.2.2.2 - b.2.1 + 3).toNat else (l.foldl cellF []).map rowI) ∧ Below w.heap.size w w' := by
 obtain ⟨res, hres⟩ : ∃ x, x = (if b.2.2.1 - b.1 < 60 ∧ b.2.2.2 - b.2.1 < 60 then placesL b (b.2.2.2 - b.2.1 + 3).toNat else (l.foldl cellF []).map rowI) := ⟨_, rfl⟩
 rw [← hres]
 have HRES := Aside0.mk hres
 clear hres
 obtain ⟨ad, hAd, a0, a1, a2⟩ := at_T60 hr 0 (by omega) (by omega)
 have e0 : ((0 : Int).toNat) = 0 := rfl
 rw [e0] at a0 a1 a2
 obtain ⟨z, hz⟩ : ∃ z, z = rd_T60 l 0 := ⟨_, rfl⟩
 rw [← hz] at a0 a1 a2
 simp [Addr.add] at a0 a1 a2
 have hl0 : (0 : Int) < (l.length : Int) := by omega
 have HZ := Aside0.mk hz
 have HB := Aside0.mk hb
 have HR := Aside0.mk hr
 clear hr hb hz
 subst hAd
 go_enter Tryd.func62, Tryd.ntmps62
 go_upto_region 1 with (fail)
 go_region
 obtain ⟨w1, hw1⟩ : ∃ W, W = (w.alloc (RO z.f0 z.f1)).drew := ⟨_, rfl⟩
 have t3 : w1.heap[w.heap.size]? = some (RO z.f0 z.f1) := by rw [hw1]; exact blk_new _ _
 have hB1 : Below w.heap.size w w1 := by rw [hw1]; exact below_drew (below_alloc (Below.refl _ _) _)
 rw [← hw1]
 obtain ⟨g3, hg3⟩ : ∃ g, g = w.heap.size := ⟨_, rfl⟩
 rw [← hg3] at t3 ⊢
 have hz1 := hB1.size
 have hg3z : w.heap.size ≤ g3 := by omega
 have hl3 := blk_lt t3
 have T3 := Aside0.mk t3
 have HB1 := Aside0.mk hB1
 clear hw1 hg3 t3 a0 a1 a2
 obtain ⟨ad', hA', a0, a1, a2⟩ := at_T60 (Kd.C_below HR.out hB1) 0 (by omega) (by omega)
 obtain rfl := Option.some.inj hA'
 rw [e0, HZ.out.symm] at a0 a1 a2
 simp [Addr.add] at a0 a1 a2
 clear hA' hB1
 go_upto_region 2 with (fail)
 go_region
 obtain ⟨w2, hw2⟩ : ∃ W, W = (w1.alloc (RO z.f0 z.f1)).drew := ⟨_, rfl⟩
 have t4 : w2.heap[w1.heap.size]? = some (RO z.f0 z.f1) := by rw [hw2]; exact blk_new _ _
 have hB2 : Below w1.heap.size w1 w2 := by rw [hw2]; exact below_drew (below_alloc (Below.refl _ _) _)
 rw [← hw2]
 obtain ⟨g4, hg4⟩ : ∃ g, g = w1.heap.size := ⟨_, rfl⟩
 rw [← hg4] at t4 ⊢
 have hg4z : w.heap.size ≤ g4 := by omega
 have hne34 : g3 ≠ g4 := by omega
 have hne43 : g4 ≠ g3 := by omega
 have T3' := Aside0.mk (blk_below T3.out hB2)
 have T4' := Aside0.mk t4
 have HB2 := Aside0.mk (HB1.out.trans (hB2.mono hz1))
 clear hw2 hg4 t4 hB2 a0 a1 a2 T3 HB1 hl3 hz1
 go_wp2_with fail
 go_loopw [37] (fun iv wr => ∃ i : Nat, i ≤ l.length ∧ iv = .int .i64 i ∧ wr.heap[g3]? = some (RO ((l.take i).foldl boxStep (z.f0, z.f1, z.f0, z.f1)).1 ((l.take i).foldl boxStep (z.f0, z.f1, z.f0, z.f1)).2.1) ∧ wr.heap[g4]? = some (RO ((l.take i).foldl boxStep (z.f0, z.f1, z.f0, z.f1)).2.2.1 ((l.take i).foldl boxStep (z.f0, z.f1, z.f0, z.f1)).2.2.2) ∧ Below w.heap.size w wr) (fun iv _ => l.length - (intOf iv).toNat)
 case atStart => exact ⟨0, by omega, rfl, T3'.out, T4'.out, HB2.out⟩
 case round =>
  obtain ⟨i, hi, rfl, ht3, ht4, hbr⟩ := hrel
  have R2 := Aside0.mk (Kd.C_below HR.out hbr)
  have HBr := Aside0.mk hbr
  clear T3' T4' HB2
  by_cases hlt : i < l.length
  ·obtain ⟨ad', hA', a0, a1, a2⟩ := at_T60 R2.out i (by omega) (by omega)
   obtain rfl := Option.some.inj hA'
   rw [Int.toNat_natCast] at a0 a1 a2
   have hx : rd_T60 l i = l[i] := by simp [rd_T60, hlt]
   rw [hx] at a0 a1 a2
   have hnx : (l.take (i + 1)).foldl boxStep (z.f0, z.f1, z.f0, z.f1) = boxStep ((l.take i).foldl boxStep (z.f0, z.f1, z.f0, z.f1)) l[i] := by rw [List.take_add_one, List.getElem?_eq_getElem hlt, List.foldl_append]; rfl
   obtain ⟨c, hc'⟩ : ∃ c, c = l[i] := ⟨_, rfl⟩
   rw [← hc'] at a0 a1 a2 hnx
   obtain ⟨B, hBv⟩ : ∃ B, B = (l.take i).foldl boxStep (z.f0, z.f1, z.f0, z.f1) := ⟨_, rfl⟩
   rw [← hBv] at hnx ht3 ht4
   obtain ⟨p, q, r, s⟩ := B
   have T3 := Aside0.mk ht3
   have T4 := Aside0.mk ht4
   have HNX := Aside0.mk hnx
   clear hx hc' hBv hnx ht3 ht4 hA' hbr
   go_upto_region 6 with (fail)
   obtain ⟨w5, hw5⟩ : ∃ W, W = wr.alloc (.cells #[.int .i64 c.f0, .int .i64 c.f1, .int .i64 c.f2] 60 (0, 0)) := ⟨_, rfl⟩
   have t6 : w5.heap[wr.heap.size]? = some (.cells #[.int .i64 c.f0, .int .i64 c.f1, .int .i64 c.f2] 60 (0, 0)) := by rw [hw5]; exact blk_new _ _
   have hB5 : Below wr.heap.size wr w5 := by rw [hw5]; exact below_alloc (Below.refl _ _) _
   rw [← hw5]
   obtain ⟨g6, hg6⟩ : ∃ g, g = wr.heap.size := ⟨_, rfl⟩
   rw [← hg6] at t6 ⊢
   have hg6z : w.heap.size ≤ g6 := by have := HBr.out.size; omega
   have hne63 : g6 ≠ g3 := by have := blk_lt T3.out; omega
   have hne64 : g6 ≠ g4 := by have := blk_lt T4.out; omega
   have U3 := Aside0.mk (blk_below T3.out hB5)
   have U4 := Aside0.mk (blk_below T4.out hB5)
   have U6 := Aside0.mk t6
   have HB5 := Aside0.mk (HBr.out.trans (hB5.mono HBr.out.size))
   have x0 := blk_cell U3.out 0
   have fx := blk_frozen U3.out
   have y0 := blk_cell U6.out 0
   simp only [List.getElem?_toArray, List.getElem?_cons_zero, List.getElem?_cons_succ] at x0 y0
   clear hw5 hg6 t6 hB5 a0 a1 a2 T3 T4
   go_region
   clear x0 fx y0
   go_upto_region 7 with (fail)
   obtain ⟨w16, hw⟩ : ∃ W, W = (w5.setCell ⟨g3, 0, none⟩ (.int .i64 (min p c.f0))).drew := ⟨_, rfl⟩
   have v3 : w16.heap[g3]? = some (RO (min p c.f0) (q)) := by rw [hw]; exact blk_set U3.out 0 _
   have vo : w16.heap[g4]? = some (RO (r) (s)) := by rw [hw]; exact (Below.heap_setCell _ ⟨g3, 0, none⟩ _ g4 hne43).trans U4.out
   have v6 : w16.heap[g6]? = some (.cells #[.int .i64 c.f0, .int .i64 c.f1, .int .i64 c.f2] 60 (0, 0)) := by rw [hw]; exact (Below.heap_setCell _ ⟨g3, 0, none⟩ _ g6 hne63).trans U6.out
   have vb : Below w.heap.size w w16 := by rw [hw]; exact below_drew (Below.setCell (p := ⟨g3, 0, none⟩) HB5.out hg3z _)
   rw [← hw]
   clear U3 U4 U6 HB5 hw
   have U3 := Aside0.mk v3
   have U4 := Aside0.mk vo
   have U6 := Aside0.mk v6
   have HB5 := Aside0.mk vb
   clear v3 vo v6 vb
   have x0 := blk_cell U3.out 1
   have fx := blk_frozen U3.out
   have y0 := blk_cell U6.out 1
   simp only [List.getElem?_toArray, List.getElem?_cons_zero, List.getElem?_cons_succ] at x0 y0
   go_region
   clear x0 fx y0
   go_upto_region 8 with (fail)
   obtain ⟨w17, hw⟩ : ∃ W, W = (w16.setCell ⟨g3, 1, none⟩ (.int .i64 (min q c.f1))).drew := ⟨_, rfl⟩
   have v3 : w17.heap[g3]? = some (RO (min p c.f0) (min q c.f1)) := by rw [hw]; exact blk_set U3.out 1 _
   have vo : w17.heap[g4]? = some (RO (r) (s)) := by rw [hw]; exact (Below.heap_setCell _ ⟨g3, 1, none⟩ _ g4 hne43).trans U4.out
   have v6 : w17.heap[g6]? = some (.cells #[.int .i64 c.f0, .int .i64 c.f1, .int .i64 c.f2] 60 (0, 0)) := by rw [hw]; exact (Below.heap_setCell _ ⟨g3, 1, none⟩ _ g6 hne63).trans U6.out
   have vb : Below w.heap.size w w17 := by rw [hw]; exact below_drew (Below.setCell (p := ⟨g3, 1, none⟩) HB5.out hg3z _)
   rw [← hw]
   clear U3 U4 U6 HB5 hw
   have U3 := Aside0.mk v3
   have U4 := Aside0.mk vo
   have U6 := Aside0.mk v6
   have HB5 := Aside0.mk vb
   clear v3 vo v6 vb
   have x0 := blk_cell U4.out 0
   have fx := blk_frozen U4.out
   have y0 := blk_cell U6.out 0
   simp only [List.getElem?_toArray, List.getElem?_cons_zero, List.getElem?_cons_succ] at x0 y0
   go_region
   clear x0 fx y0
   go_upto_region 9 with (fail)
   obtain ⟨w18, hw⟩ : ∃ W, W = (w17.setCell ⟨g4, 0, none⟩ (.int .i64 (max r c.f0))).drew := ⟨_, rfl⟩
   have v4 : w18.heap[g4]? = some (RO (max r c.f0) (s)) := by rw [hw]; exact blk_set U4.out 0 _
   have vo : w18.heap[g3]? = some (RO (min p c.f0) (min q c.f1)) := by rw [hw]; exact (Below.heap_setCell _ ⟨g4, 0, none⟩ _ g3 hne34).trans U3.out
   have v6 : w18.heap[g6]? = some (.cells #[.int .i64 c.f0, .int .i64 c.f1, .int .i64 c.f2] 60 (0, 0)) := by rw [hw]; exact (Below.heap_setCell _ ⟨g4, 0, none⟩ _ g6 hne64).trans U6.out
   have vb : Below w.heap.size w w18 := by rw [hw]; exact below_drew (Below.setCell (p := ⟨g4, 0, none⟩) HB5.out hg4z _)
   rw [← hw]
   clear U3 U4 U6 HB5 hw
   have U4 := Aside0.mk v4
   have U3 := Aside0.mk vo
   have U6 := Aside0.mk v6
   have HB5 := Aside0.mk vb
   clear v4 vo v6 vb
   have x0 := blk_cell U4.out 1
   have fx := blk_frozen U4.out
   have y0 := blk_cell U6.out 1
   simp only [List.getElem?_toArray, List.getElem?_cons_zero, List.getElem?_cons_succ] at x0 y0
   go_region
   clear x0 fx y0
   go_upto_region 10 with (fail)
   obtain ⟨w19, hw⟩ : ∃ W, W = (w18.setCell ⟨g4, 1, none⟩ (.int .i64 (max s c.f1))).drew := ⟨_, rfl⟩
   have v4 : w19.heap[g4]? = some (RO (max r c.f0) (max s c.f1)) := by rw [hw]; exact blk_set U4.out 1 _
   have vo : w19.heap[g3]? = some (RO (min p c.f0) (min q c.f1)) := by rw [hw]; exact (Below.heap_setCell _ ⟨g4, 1, none⟩ _ g3 hne34).trans U3.out
   have v6 : w19.heap[g6]? = some (.cells #[.int .i64 c.f0, .int .i64 c.f1, .int .i64 c.f2] 60 (0, 0)) := by rw [hw]; exact (Below.heap_setCell _ ⟨g4, 1, none⟩ _ g6 hne64).trans U6.out
   have vb : Below w.heap.size w w19 := by rw [hw]; exact below_drew (Below.setCell (p := ⟨g4, 1, none⟩) HB5.out hg4z _)
   rw [← hw]
   clear U3 U4 U6 HB5 hw
   have U4 := Aside0.mk v4
   have U3 := Aside0.mk vo
   have U6 := Aside0.mk v6
   have HB5 := Aside0.mk vb
   clear v4 vo v6 vb
   go_wp2
   go_roundw
   case rel => exact ⟨i + 1, by omega, by go_num, by rw [HNX.out]; exact U3.out, by rw [HNX.out]; exact U4.out, HB5.out⟩
   case measure => simp [intOf]; omega
  ·obtain rfl : i = l.length := by omega
   have hbx : (l.take l.length).foldl boxStep (z.f0, z.f1, z.f0, z.f1) = b := by rw [List.take_length, HB.out, HZ.out]; rfl
   rw [hbx] at ht3 ht4
   obtain ⟨p, q, r, s⟩ := b
   have T3 := Aside0.mk ht3
   have T4 := Aside0.mk ht4
   simp only at hnf hb1 hb2 hbd
   clear hbx ht3 ht4 HB R2 hbr
   go_upto_region 12 with (first | ((with_reducible refine gate_dst (N := 74) rfl ?_); refine Kd.S_lit (Kd.slice 2 (Kd.int .i64)) _ 111 ?hg (N := 74) ?hd (xs := ([] : List (List Int))) (inner := []) (ok := fun _ => True) (okp := fun _ => True) ?hr ?hp (fun _ hk => hk) trivial (Below.refl _ _) (Nat.le_refl _) (by simp) ?_; (case hd => rfl); (case hg => rfl); (case hr => first | (go_simp; done) | (go_simp; rfl)); (case hp => exact (Reps.none _ _)); intro v7 w41 ho41 hb41 _ _))
   have S41 := Aside0.mk (Kd.S_lower (Kd.S_mono (Kd.S_bound ho41) (fun k hk => ⟨by have := blk_lt T3.out; have := hk.2.1; omega, by have := blk_lt T4.out; have := hk.2.1; omega⟩)) HBr.out.size : Kd.S (Kd.slice 2 (Kd.int .i64)) 111 w41 w.heap.size (fun k => k ≠ g3 ∧ k ≠ g4) v7 [])
   have t3 := blk_below T3.out hb41
   have t4 := blk_below T4.out hb41
   have T3w := Aside0.mk t3
   have T4w := Aside0.mk t4
   have HB41 := Aside0.mk (HBr.out.trans (hb41.mono HBr.out.size))
   have p0 := blk_cell t3 0
   have p1 := blk_cell t3 1
   have q0 := blk_cell t4 0
   have q1 := blk_cell t4 1
   simp only [List.getElem?_toArray, List.getElem?_cons_zero, List.getElem?_cons_succ] at p0 p1 q0 q1
   have hwa : IntKind.i64.wrap (r - p) = r - p := by rw [IntKind.wrap_i64]; omega
   have hwb : IntKind.i64.wrap (s - q) = s - q := by rw [IntKind.wrap_i64]; omega
   clear ho41 hb41 t3 t4 T3 T4 HBr
   by_cases hnear : r - p < 60 ∧ s - q < 60
   ·have hres2 : res = placesL (p, q, r, s) (s - q + 3).toNat := HRES.out.trans (if_pos hnear)
    have HRES2 := Aside0.mk hres2
    clear hres2 HRES
    obtain ⟨hba, hbb⟩ := hnear
    go_region
    clear hwa hwb p0 p1 q0 q1
    go_upto_region 13 with (fail)
    obtain ⟨w42, hw42⟩ : ∃ W, W = w41.drew := ⟨_, rfl⟩
    have t3 : w42.heap[g3]? = some (RO p q) := by rw [hw42]; exact T3w.out
    have t4 : w42.heap[g4]? = some (RO r s) := by rw [hw42]; exact T4w.out
    have S42 := Aside0.mk (show Kd.S (Kd.slice 2 (Kd.int .i64)) 111 w42 w.heap.size (fun k => k ≠ g3 ∧ k ≠ g4) v7 [] by rw [hw42]; exact Kd.S_drew S41.out)
    have HB42 := Aside0.mk (show Below w.heap.size w w42 by rw [hw42]; exact below_drew HB41.out)
    rw [← hw42]
    have T3 := Aside0.mk t3
    have T4 := Aside0.mk t4
    have p1 := blk_cell t3 1
    simp only [List.getElem?_toArray, List.getElem?_cons_zero, List.getElem?_cons_succ] at p1
    have hwq : IntKind.i64.wrap (q - 1) = q - 1 := by rw [IntKind.wrap_i64]; omega
    clear hw42 t3 t4 S41 T3w T4w HB41
    go_wp2_with fail
    obtain ⟨n, hnv⟩ : ∃ n : Nat, (n : Int) = s - q + 3 := ⟨(s - q + 3).toNat, by omega⟩
    obtain ⟨m, hmv⟩ : ∃ m : Nat, (m : Int) = r - p + 3 := ⟨(r - p + 3).toNat, by omega⟩
    go_loopw [7, 8] (fun ov bv ws => ∃ i : Nat, i ≤ n ∧ bv = .int .i64 (q - 1 + i) ∧ Kd.S (Kd.slice 2 (Kd.int .i64)) 111 ws w.heap.size (fun k => k ≠ g3 ∧ k ≠ g4) ov (placesL (p, q, r, s) i) ∧ ws.heap[g3]? = some (RO p q) ∧ ws.heap[g4]? = some (RO r s) ∧ Below w.heap.size w ws) (fun _ bv _ => n - (intOf bv - (q - 1)).toNat)
    case atStart => exact ⟨0, by omega, by simp, S42.out, T3.out, T4.out, HB42.out⟩
    case round =>
     obtain ⟨i, hin, rfl, hS, ht3, ht4, hbr⟩ := hrel
     have SS := Aside0.mk hS
     have T3 := Aside0.mk ht3
     have T4 := Aside0.mk ht4
     have HBr := Aside0.mk hbr
     have x1 := blk_cell ht4 1
     have x0 := blk_cell ht3 0
     simp only [List.getElem?_toArray, List.getElem?_cons_zero, List.getElem?_cons_succ] at x0 x1
     have hws : IntKind.i64.wrap (s + 1) = s + 1 := by rw [IntKind.wrap_i64]; omega
     have hwp : IntKind.i64.wrap (p - 1) = p - 1 := by rw [IntKind.wrap_i64]; omega
     clear S42 HB42 hS ht3 ht4 hbr
     by_cases hlt : i < n
     ·have hle : q - 1 + (i : Int) ≤ s + 1 := by omega
      go_wp2_with fail
      clear x0 x1 hle
      go_loopw [7, 9] (fun ov av ws => ∃ j : Nat, j ≤ m ∧ av = .int .i64 (p - 1 + j) ∧ Kd.S (Kd.slice 2 (Kd.int .i64)) 111 ws w.heap.size (fun k => k ≠ g3 ∧ k ≠ g4) ov (placesL (p, q, r, s) i ++ rowP (p, q, r, s) i j) ∧ ws.heap[g3]? = some (RO p q) ∧ ws.heap[g4]? = some (RO r s) ∧ Below w.heap.size w ws) (fun _ av _ => m - (intOf av - (p - 1)).toNat)
      case atStart => exact ⟨0, by omega, by simp, by rw [show rowP (p, q, r, s) i 0 = [] from rfl, List.append_nil]; exact SS.out, T3.out, T4.out, HBr.out⟩
      case round =>
       obtain ⟨j, hjm, rfl, hS, ht3, ht4, hbr⟩ := hrel
       have SS2 := Aside0.mk hS
       have T3w := Aside0.mk ht3
       have T4w := Aside0.mk ht4
       have HBw := Aside0.mk hbr
       have x0 := blk_cell ht4 0
       simp only [List.getElem?_toArray, List.getElem?_cons_zero, List.getElem?_cons_succ] at x0
       have hwr : IntKind.i64.wrap (r + 1) = r + 1 := by rw [IntKind.wrap_i64]; omega
       have hplen : (placesL (p, q, r, s) i).length ≤ i * 63 := placesL_len p q r s i (by omega) (by omega)
       have hrlen : (rowP (p, q, r, s) i j).length = j := by simp [rowP]
       clear hS ht3 ht4 SS T3 T4 HBr
       by_cases hlj : j < m
       ·have hle : p - 1 + (j : Int) ≤ r + 1 := by omega
        have hsz := hbr.size
        have hlt3 := blk_lt T3w.out
        have hlt4 := blk_lt T4w.out
        have hbz := hbr.size
        have hnx : rowP (p, q, r, s) i (j + 1) = rowP (p, q, r, s) i j ++ [[p - 1 + (j : Int), q - 1 + (i : Int)]] := by simp [rowP, List.range_succ]
        have HNX := Aside0.mk hnx
        have hx1 : IntKind.i64.wrap (p - 1 + (j : Int) + 1) = p - 1 + (j : Int) + 1 := by rw [IntKind.wrap_i64]; omega
        clear hnx hbr
        go_wp2_with (first
         | (at_builtin
            refine app1S (fun k => k ≠ g3 ∧ k ≠ g4) (Kd.slice 2 (Kd.int .i64)) w.heap.size (.tmp 117) (.tmp 121) 109 111 (.slice none 0 0) 24 _ (placesL (p, q, r, s) i ++ rowP (p, q, r, s) i j) [p - 1 + (j : Int), q - 1 + (i : Int)] [.slice (some ⟨wr.heap.size, 0, none⟩) 2 2] _ wr.heap.size rfl rfl Tryd.underlying109 info111 rfl (by decide) (by decide) rfl (World.size_alloc _ _) rfl (Kd.M_row (row_two _ _ _ hbz)) ⟨⟨by omega, by omega⟩, fun e => by have := Kd.S_lt SS2.out _ e.symm; omega⟩ (fun k hk => by rw [World.size_alloc] at hk; exact ⟨by omega, by omega⟩) (Kd.S_alloc (Kd.S_mono (Kd.S_bound SS2.out) (fun k hk => ⟨hk.1, by have := hk.2.2.1; omega⟩)) _) (by rw [World.size_alloc]; omega) (by rw [List.length_append]; omega) ?_
            intro v1 w43 hS1 hb1 hk1
            have SN := Aside0.mk hS1
            have U3 := Aside0.mk ((hk1 g3 (by rw [World.size_alloc]; omega) (fun h => h.1 rfl)).trans (blk_alloc T3w.out _))
            have U4 := Aside0.mk ((hk1 g4 (by rw [World.size_alloc]; omega) (fun h => h.2 rfl)).trans (blk_alloc T4w.out _))
            have HBn := Aside0.mk ((below_alloc HBw.out _).trans hb1)
            clear hS1 hb1 hk1))
        go_roundw
        case rel => exact ⟨j + 1, by omega, by go_num, by rw [HNX.out, ← List.append_assoc]; exact SN.out, U3.out, U4.out, HBn.out⟩
        case measure => simp [intOf]; omega
       ·obtain rfl : j = m := by omega
        have hle : ¬ (p - 1 + (j : Int) ≤ r + 1) := by omega
        have hxb : IntKind.i64.wrap (q - 1 + (i : Int) + 1) = q - 1 + (i : Int) + 1 := by rw [IntKind.wrap_i64]; omega
        clear hbr
        go_wp2
        go_roundw
        case rel => exact ⟨i + 1, by omega, by go_num, by rw [placesL_succ p q r s i j (by omega)]; exact SS2.out, T3w.out, T4w.out, HBw.out⟩
        case measure => simp [intOf]; omega
     ·obtain rfl : i = n := by omega
      have hle : ¬ (q - 1 + (i : Int) ≤ s + 1) := by omega
      go_wp2
      go_ret
      exact ⟨_, rfl, by rw [HRES2.out, show (s - q + 3).toNat = i by omega]; exact Kd.S_mono SS.out (fun _ _ => trivial), HBr.out⟩
   ·have hreg : True := trivial
    go_cut [92] (fun v92 wc => v92 = .bool false ∧ Aside0 (Kd.S (Kd.slice 2 (Kd.int .i64)) 111 wc w.heap.size (fun k => k ≠ g3 ∧ k ≠ g4) v7 []) ∧ Aside0 (Below w.heap.size w wc))
    case first =>
     by_cases hba : r - p < 60
     ·have hbb : ¬ (s - q < 60) := fun h => hnear ⟨hba, h⟩
      go_region
      go_wp2
      go_meet
      case rel => exact ⟨rfl, ⟨Kd.S_drew S41.out⟩, ⟨below_drew HB41.out⟩⟩
     ·go_region
      go_wp2
      go_meet
      case rel => exact ⟨rfl, ⟨Kd.S_drew S41.out⟩, ⟨below_drew HB41.out⟩⟩
    case rest =>
    obtain ⟨rfl, S42, HB42⟩ := hcut
    clear hwa hwb p0 p1 q0 q1 S41 T3w T4w HB41
    have SS := Aside0.mk (Kd.S_mono S42.out (fun _ _ => trivial) : Kd.S (Kd.slice 2 (Kd.int .i64)) 111 wc w.heap.size (fun _ => True) v7 [])
    obtain ⟨hlen, hall⟩ := hnf.resolve_left hnear
    have hres2 : res = (l.foldl cellF []).map rowI := HRES.out.trans (if_neg hnear)
    have HFAR := Aside0.mk hres2
    clear hres2 HRES
    have HALL := Aside0.mk hall
    have HNEXT := Aside0.mk (fun i (hi : i < l.length) => foldF_next l [] i hi)
    clear S42 hnear hall hnf
    go_wp2_with fail
    go_loopw [7, 126] (fun ov iv ws => ∃ i : Nat, i ≤ l.length ∧ iv = .int .i64 i ∧ Kd.S (Kd.slice 2 (Kd.int .i64)) 111 ws w.heap.size (fun _ => True) ov (((l.take i).foldl cellF []).map rowI) ∧ Below w.heap.size w ws) (fun _ iv _ => l.length - (intOf iv).toNat)
    case atStart => exact ⟨0, by omega, rfl, SS.out, HB42.out⟩
    case round =>
     obtain ⟨i, hi, rfl, hS, hbr⟩ := hrel
     have S1 := Aside0.mk hS
     have HBr := Aside0.mk hbr
     clear SS HB42 hS
     by_cases hlt : i < l.length
     ·obtain ⟨ad', hA', a0, a1, a2⟩ := at_T60 (Kd.C_below HR.out hbr) i (by omega) (by omega)
      obtain rfl := Option.some.inj hA'
      rw [Int.toNat_natCast] at a0 a1 a2
      have hx : rd_T60 l i = l[i] := by simp [rd_T60, hlt]
      rw [hx] at a0 a1 a2
      have hnx := HNEXT.out i hlt
      have hcb := HALL.out _ (List.getElem_mem hlt)
      obtain ⟨PP, hPP⟩ : ∃ PP, PP = (l.take i).foldl cellF [] := ⟨_, rfl⟩
      have hPl : PP.length ≤ 9 * i := by rw [hPP]; have := foldF_len (l.take i) []; rw [List.length_take, List.length_nil] at this; omega
      rw [← hPP] at hnx S1
      obtain ⟨c, hc'⟩ : ∃ c, c = l[i] := ⟨_, rfl⟩
      rw [← hc'] at a0 a1 a2 hnx hcb
      have HNX := Aside0.mk hnx
      clear hx hA' hPP hc' hnx hbr
      go_upto_region 24 with (fail)
      obtain ⟨w5, hw5⟩ : ∃ W, W = wr.alloc (.cells #[.int .i64 c.f0, .int .i64 c.f1, .int .i64 c.f2] 60 (0, 0)) := ⟨_, rfl⟩
      have t6 : w5.heap[wr.heap.size]? = some (.cells #[.int .i64 c.f0, .int .i64 c.f1, .int .i64 c.f2] 60 (0, 0)) := by rw [hw5]; exact blk_new _ _
      have hB5 : Below wr.heap.size wr w5 := by rw [hw5]; exact below_alloc (Below.refl _ _) _
      rw [← hw5]
      obtain ⟨g6, hg6⟩ : ∃ g, g = wr.heap.size := ⟨_, rfl⟩
      have S5 := Aside0.mk (Kd.S_mono (Kd.S_below (Kd.S_bound S1.out) hB5) (fun k hk => by have := hk.2.2.1; omega) : Kd.S (Kd.slice 2 (Kd.int .i64)) 111 w5 w.heap.size (fun k => k ≠ g6) u7 (PP.map rowI))
      rw [← hg6] at t6 ⊢
      have hg6z : w.heap.size ≤ g6 := by have := HBr.out.size; omega
      have U6 := Aside0.mk t6
      have HB5 := Aside0.mk (HBr.out.trans (hB5.mono HBr.out.size))
      have x0 := blk_cell U6.out 0
      have x1 := blk_cell U6.out 1
      simp only [List.getElem?_toArray, List.getElem?_cons_zero, List.getElem?_cons_succ] at x0 x1
      have hwa : IntKind.i64.wrap (c.f0 - 1) = c.f0 - 1 := by rw [IntKind.wrap_i64]; omega
      clear hw5 hg6 t6 hB5 a0 a1 a2 S1 HBr
      go_wp2_with fail
      clear x0 x1 hwa
      go_loopw [7, 12] (fun ov av ws => ∃ j : Nat, j ≤ 3 ∧ av = .int .i64 (c.f0 - 1 + j) ∧ Kd.S (Kd.slice 2 (Kd.int .i64)) 111 ws w.heap.size (fun k => k ≠ g6) ov ((colsF (c.f0 - 1) (c.f1 - 1) j PP).map rowI) ∧ ws.heap[g6]? = some (.cells #[.int .i64 c.f0, .int .i64 c.f1, .int .i64 c.f2] 60 (0, 0)) ∧ Below w.heap.size w ws) (fun _ av _ => 3 - (intOf av - (c.f0 - 1)).toNat)
      case atStart => exact ⟨0, by omega, by simp, S5.out, U6.out, HB5.out⟩
      case round =>
       obtain ⟨j, hj, rfl, hS, ht6, hbr⟩ := hrel
       have SA := Aside0.mk hS
       have UA := Aside0.mk ht6
       have HBA := Aside0.mk hbr
       have x0 := blk_cell ht6 0
       have x1 := blk_cell ht6 1
       simp only [List.getElem?_toArray, List.getElem?_cons_zero, List.getElem?_cons_succ] at x0 x1
       have hcl := colsF_len (c.f0 - 1) (c.f1 - 1) PP j
       have hwa : IntKind.i64.wrap (c.f0 + 1) = c.f0 + 1 := by rw [IntKind.wrap_i64]; omega
       have hwb : IntKind.i64.wrap (c.f1 - 1) = c.f1 - 1 := by rw [IntKind.wrap_i64]; omega
       clear S5 U6 HB5 hS ht6 hbr
       by_cases hj3 : j < 3
       ·have hle : c.f0 - 1 + (j : Int) ≤ c.f0 + 1 := by omega
        have HCS := Aside0.mk (colsF_succ (c.f0 - 1) (c.f1 - 1) PP j)
        obtain ⟨P1, hP1⟩ : ∃ P1, P1 = colsF (c.f0 - 1) (c.f1 - 1) j PP := ⟨_, rfl⟩
        rw [← hP1] at SA hcl HCS
        obtain ⟨a, ha⟩ : ∃ a, a = c.f0 - 1 + (j : Int) := ⟨_, rfl⟩
        rw [← ha] at hle HCS ⊢
        have HA := Aside0.mk ha
        have hab : -2000000000 ≤ a ∧ a ≤ 2000000000 := by omega
        clear hP1 ha
        go_wp2_with fail
        clear x0 x1 hwa hle
        go_loopw [7, 13] (fun ov bv ws => ∃ m : Nat, m ≤ 3 ∧ bv = .int .i64 (c.f1 - 1 + m) ∧ Kd.S (Kd.slice 2 (Kd.int .i64)) 111 ws w.heap.size (fun k => k ≠ g6) ov ((colF a (c.f1 - 1) m P1).map rowI) ∧ ws.heap[g6]? = some (.cells #[.int .i64 c.f0, .int .i64 c.f1, .int .i64 c.f2] 60 (0, 0)) ∧ Below w.heap.size w ws) (fun _ bv _ => 3 - (intOf bv - (c.f1 - 1)).toNat)
        case atStart => exact ⟨0, by omega, by simp, SA.out, UA.out, HBA.out⟩
        case round =>
         obtain ⟨m, hm, rfl, hS, ht6, hbr⟩ := hrel
         have SB := Aside0.mk hS
         have UB := Aside0.mk ht6
         have HBB := Aside0.mk hbr
         have x1 := blk_cell ht6 1
         simp only [List.getElem?_toArray, List.getElem?_cons_zero, List.getElem?_cons_succ] at x1
         have hcl2 := colF_len a (c.f1 - 1) P1 m
         have hwb : IntKind.i64.wrap (c.f1 + 1) = c.f1 + 1 := by rw [IntKind.wrap_i64]; omega
         clear SA UA HBA hS ht6 hbr
         by_cases hm3 : m < 3
         ·have hle : c.f1 - 1 + (m : Int) ≤ c.f1 + 1 := by omega
          have HCI := Aside0.mk (colF_succ a (c.f1 - 1) P1 m)
          obtain ⟨Q, hQ⟩ : ∃ Q, Q = colF a (c.f1 - 1) m P1 := ⟨_, rfl⟩
          rw [← hQ] at SB hcl2 HCI
          obtain ⟨b, hb⟩ : ∃ b, b = c.f1 - 1 + (m : Int) := ⟨_, rfl⟩
          rw [← hb] at hle HCI ⊢
          have HBv := Aside0.mk hb
          have hbb : -2000000000 ≤ b ∧ b ≤ 2000000000 := by omega
          clear hQ hb
          obtain ⟨Ao, co, eo⟩ := Kd.R_slice (Kd.S_R SB.out)
          have hQl : (Q.map rowI).length = Q.length := List.length_map _
          rw [hQl] at eo
          subst eo
          go_wp2_with fail
          clear x1 hwb hle
          go_loopw [14, 152] (fun tv kv ws => ∃ k : Nat, k ≤ Q.length ∧ kv = .int .i64 k ∧ tv = .bool ((Q.take k).any fun p => p.1 == a && p.2 == b) ∧ Kd.S (Kd.slice 2 (Kd.int .i64)) 111 ws w.heap.size (fun k => k ≠ g6) (.slice Ao Q.length co) (Q.map rowI) ∧ ws.heap[g6]? = some (.cells #[.int .i64 c.f0, .int .i64 c.f1, .int .i64 c.f2] 60 (0, 0)) ∧ Below w.heap.size w ws) (fun _ kv _ => Q.length - (intOf kv).toNat)
          case atStart => exact ⟨0, by omega, rfl, by simp, SB.out, UB.out, HBB.out⟩
          case round =>
           obtain ⟨k, hk, rfl, rfl, hS, ht6, hbr⟩ := hrel
           have SC := Aside0.mk hS
           have UC := Aside0.mk ht6
           have HBC := Aside0.mk hbr
           clear SB UB HBB hS ht6 hbr
           by_cases hkl : k < Q.length
           ·obtain ⟨g, bb, o, c', eA, r0, r1, r2⟩ := row_here SC.out k hkl
            subst eA
            have hnx2 : ((Q.take (k + 1)).any fun p => p.1 == a && p.2 == b) = (((Q.take k).any fun p => p.1 == a && p.2 == b) || (Q[k].1 == a && Q[k].2 == b)) := by
             rw [List.take_add_one, List.getElem?_eq_getElem hkl, List.any_append]
             simp
            have HN2 := Aside0.mk hnx2
            obtain ⟨pk, hpk⟩ : ∃ pk, pk = Q[k] := ⟨_, rfl⟩
            rw [← hpk] at r1 r2 HN2
            obtain ⟨B, hBv⟩ : ∃ B, B = ((Q.take k).any fun p => p.1 == a && p.2 == b) := ⟨_, rfl⟩
            rw [← hBv] at HN2 ⊢
            have hwk : IntKind.i64.wrap ((k : Int) + 1) = (k : Int) + 1 := by rw [IntKind.wrap_i64]; omega
            clear hnx2 hpk hBv
            go_upto_region 34 with (fail)
            obtain ⟨V, hV⟩ : ∃ V, V = (B || (pk.1 == a && pk.2 == b)) := ⟨_, rfl⟩
            have HV := Aside0.mk hV
            clear hV
            cases B with
            | true =>
             go_wp2
             go_roundw
             case rel => exact ⟨k + 1, by omega, by go_num, by rw [HN2.out]; rfl, SC.out, UC.out, HBC.out⟩
             case measure => simp [intOf]; omega
            | false =>
             by_cases hpa : pk.1 = a
             ·have hpa1 : (pk.1 == a) = true := by simp [hpa]
              go_wp2
              go_roundw
              case rel => exact ⟨k + 1, by omega, by go_num, by rw [HN2.out, hpa1]; simp, SC.out, UC.out, HBC.out⟩
              case measure => simp [intOf]; omega
             ·have hpa1 : (pk.1 == a) = false := by simp [hpa]
              go_wp2
              go_roundw
              case rel => exact ⟨k + 1, by omega, by go_num, by rw [HN2.out, hpa1]; simp, SC.out, UC.out, HBC.out⟩
              case measure => simp [intOf]; omega
           ·obtain rfl : k = Q.length := by omega
            rw [List.take_length]
            have hany : (Q.any fun p => p.1 == a && p.2 == b) = decide ((a, b) ∈ Q) := by
             rw [Bool.eq_iff_iff, List.any_eq_true, decide_eq_true_eq]
             constructor
             ·rintro ⟨p, hp, he⟩
              rw [Bool.and_eq_true, beq_iff_eq, beq_iff_eq] at he
              have : p = (a, b) := Prod.ext he.1 he.2
              exact this ▸ hp
             ·intro h
              exact ⟨(a, b), h, by simp⟩
            rw [hany]
            have hwm : IntKind.i64.wrap (b + 1) = b + 1 := by rw [IntKind.wrap_i64]; omega
            have hsz := HBC.out.size
            have hlt6 := blk_lt UC.out
            by_cases hmem : (a, b) ∈ Q
            ·rw [decide_eq_true hmem]
             have hins : insP Q (a, b) = Q := if_pos hmem
             have HINS := Aside0.mk hins
             clear hins hany hmem
             go_wp2
             go_roundw
             case rel => exact ⟨m + 1, by omega, by rw [HBv.out]; go_num, by rw [HCI.out, HINS.out]; exact SC.out, UC.out, HBC.out⟩
             case measure => simp [intOf, HBv.out]; omega
            ·rw [decide_eq_false hmem]
             have hins : insP Q (a, b) = Q ++ [(a, b)] := if_neg hmem
             have HINS := Aside0.mk hins
             clear hins hany hmem
             go_wp2_with (first
              | (at_builtin
                 refine app1S (fun k => k ≠ g6) (Kd.slice 2 (Kd.int .i64)) w.heap.size (.tmp 174) (.tmp 178) 109 111 (.slice none 0 0) 24 _ (Q.map rowI) [a, b] [.slice (some ⟨wr.heap.size, 0, none⟩) 2 2] _ wr.heap.size rfl rfl Tryd.underlying109 info111 rfl (by decide) (by decide) rfl (World.size_alloc _ _) rfl (Kd.M_row (row_two _ _ _ hsz)) ⟨by omega, fun e => by have := Kd.S_lt SC.out _ e.symm; omega⟩ (fun k hk => by rw [World.size_alloc] at hk; omega) (Kd.S_alloc (Kd.S_mono (Kd.S_bound SC.out) (fun k hk => ⟨hk.1, by have := hk.2.2.1; omega⟩)) _) (by rw [World.size_alloc]; omega) (by rw [List.length_map]; omega) ?_
                 intro v1 w43 hS1 hb1 hk1
                 have SN := Aside0.mk hS1
                 have U3 := Aside0.mk ((hk1 g6 (by rw [World.size_alloc]; omega) (fun h => h rfl)).trans (blk_alloc UC.out _))
                 have HBn := Aside0.mk ((below_alloc HBC.out _).trans hb1)
                 clear hS1 hb1 hk1))
             go_roundw
             case rel => exact ⟨m + 1, by omega, by rw [HBv.out]; go_num, by rw [HCI.out, HINS.out, List.map_append]; exact SN.out, U3.out, HBn.out⟩
             case measure => simp [intOf, HBv.out]; omega
         ·obtain rfl : m = 3 := by omega
          have hle : ¬ (c.f1 - 1 + ((3 : Nat) : Int) ≤ c.f1 + 1) := by omega
          have hxa : IntKind.i64.wrap (a + 1) = a + 1 := by rw [IntKind.wrap_i64]; omega
          obtain ⟨QX, hQX⟩ : ∃ X, X = colF a (c.f1 - 1) 3 P1 := ⟨_, rfl⟩
          rw [← hQX] at SB hcl2
          rw [← hQX] at HCS
          obtain ⟨bz, hbz⟩ : ∃ b, b = c.f1 - 1 + ((3 : Nat) : Int) := ⟨_, rfl⟩
          rw [← hbz] at hle ⊢
          clear hQX hbz hcl2
          go_wp2
          go_roundw
          case rel => exact ⟨j + 1, by omega, by rw [HA.out]; go_num, by rw [HCS.out]; exact SB.out, UB.out, HBB.out⟩
          case measure => simp [intOf, HA.out]; omega
       ·obtain rfl : j = 3 := by omega
        have hle : ¬ (c.f0 - 1 + ((3 : Nat) : Int) ≤ c.f0 + 1) := by omega
        have hxi : IntKind.i64.wrap ((i : Int) + 1) = (i : Int) + 1 := by rw [IntKind.wrap_i64]; omega
        have hnx2 := HNX.out
        rw [cellF_is] at hnx2
        obtain ⟨QY, hQY⟩ : ∃ X, X = colsF (c.f0 - 1) (c.f1 - 1) 3 PP := ⟨_, rfl⟩
        rw [← hQY] at SA hcl hnx2
        have HNY := Aside0.mk hnx2
        obtain ⟨az, haz⟩ : ∃ a, a = c.f0 - 1 + ((3 : Nat) : Int) := ⟨_, rfl⟩
        rw [← haz] at hle ⊢
        clear hQY haz hcl hnx2 HNX
        go_wp2
        go_roundw
        case rel => exact ⟨i + 1, by omega, by go_num, by rw [HNY.out]; exact Kd.S_mono SA.out (fun _ _ => trivial), HBA.out⟩
        case measure => simp [intOf]; omega
     ·obtain rfl : i = l.length := by omega
      rw [List.take_length] at S1
      clear hbr
      go_wp2
      go_ret
      exact ⟨_, rfl, by rw [HFAR.out]; exact S1.out, HBr.out⟩
def XPlaces.f (l : List RC) : Option (List (List Int)) := if 0 < l.length ∧ l.length < 1099511627776 ∧ (((boxOf l).2.2.1 - (boxOf l).1 < 60 ∧ (boxOf l).2.2.2 - (boxOf l).2.1 < 60) ∨ (l.length ≤ 1000 ∧ ∀ c ∈ l, (-1000000000 ≤ c.f0 ∧ c.f0 ≤ 1000000000) ∧ (-1000000000 ≤ c.f1 ∧ c.f1 ≤ 1000000000))) ∧ (boxOf l).1 ≤ (boxOf l).2.2.1 ∧ (boxOf l).2.1 ≤ (boxOf l).2.2.2 ∧ (-1000000000 ≤ (boxOf l).1 ∧ (boxOf l).2.2.1 ≤ 1000000000 ∧ -1000000000 ≤ (boxOf l).2.1 ∧ (boxOf l).2.2.2 ≤ 1000000000) then some (if (boxOf l).2.2.1 - (boxOf l).1 < 60 ∧ (boxOf l).2.2.2 - (boxOf l).2.1 < 60 then placesL (boxOf l) ((boxOf l).2.2.2 - (boxOf l).2.1 + 3).toNat else (l.foldl cellF []).map rowI) else none
theorem XPlaces.calls (A0 : Option Addr) (c0 : Nat) (l0 : List RC) (r : List (List Int)) (w : World) (hr0 : Kd.C k60 w A0 l0.length l0) (hc0 : l0.length ≤ c0) (h : XPlaces.f l0 = some r) :
    Calls Tryd.prog 62 #[.slice A0 l0.length c0] w fun e w' => ∃ v0_ : Value, e = .returned v0_ ∧ Kd.S (Kd.slice 2 (Kd.int .i64)) 111 w' w.heap.size (fun _ => True) v0_ r ∧ Below w.heap.size w w' := by
 unfold XPlaces.f at h
 by_cases hc : 0 < l0.length ∧ l0.length < 1099511627776 ∧ (((boxOf l0).2.2.1 - (boxOf l0).1 < 60 ∧ (boxOf l0).2.2.2 - (boxOf l0).2.1 < 60) ∨ (l0.length ≤ 1000 ∧ ∀ c ∈ l0, (-1000000000 ≤ c.f0 ∧ c.f0 ≤ 1000000000) ∧ (-1000000000 ≤ c.f1 ∧ c.f1 ≤ 1000000000))) ∧ (boxOf l0).1 ≤ (boxOf l0).2.2.1 ∧ (boxOf l0).2.1 ≤ (boxOf l0).2.2.2 ∧ (-1000000000 ≤ (boxOf l0).1 ∧ (boxOf l0).2.2.1 ≤ 1000000000 ∧ -1000000000 ≤ (boxOf l0).2.1 ∧ (boxOf l0).2.2.2 ≤ 1000000000)
 ·rw [if_pos hc] at h
  obtain rfl := Option.some.inj h
  obtain ⟨h1, h2, h3, h5, h6, h7⟩ := hc
  exact places_any l0 A0 c0 w hr0 hc0 h1 h2 (boxOf l0) rfl h3 h5 h6 h7
 ·rw [if_neg hc] at h
  cases h
def halfR (av : Int → Int → Int → Bool) (p : Int × Int) (h : Int) : List RC := if av p.1 p.2 h = true then [⟨p.1, p.2, h⟩] else []
def cellsR (L : Int) (av : Int → Int → Int → Bool) (p : Int × Int) : List RC := halfR av p 0 ++ (if L > 1 then halfR av p 1 else [])
theorem halfR_len (av : Int → Int → Int → Bool) (p : Int × Int) (h : Int) : (halfR av p h).length ≤ 1 := by unfold halfR; split <;> simp
theorem cellsR_len (L : Int) (av : Int → Int → Int → Bool) (p : Int × Int) : (cellsR L av p).length ≤ 2 := by
 have h0 := halfR_len av p 0
 have h1 := halfR_len av p 1
 unfold cellsR
 rw [List.length_append]
 split <;> simp <;> omega
theorem flatR_len (L : Int) (av : Int → Int → Int → Bool) (PP : List (Int × Int)) : (PP.flatMap (cellsR L av)).length ≤ 2 * PP.length := by
 induction PP with
 | nil => simp
 | cons p PP ih =>
  have := cellsR_len L av p
  rw [List.flatMap_cons, List.length_append, List.length_cons]
  omega
abbrev TO (L : Int) (A1 A2 : Option Addr) (n1 n2 c1 c2 : Nat) : Obj := .cells #[.int .i64 L, .slice A1 n1 c1, .slice A2 n2 c2] 55 (0, 0)
abbrev RCB (a b h : Int) : Obj := .cells #[.int .i64 a, .int .i64 b, .int .i64 h] 60 (0, 0)
theorem row_at {w : World} {base lo : Nat} {v : Value} {PP : List (Int × Int)} (hS : Kd.S (Kd.slice 2 (Kd.int .i64)) 111 w base (fun k => lo ≤ k ∧ k < w.heap.size) v (PP.map rowI)) (hpos : 0 < PP.length) :
    ∃ g c, v = .slice (some ⟨g, 0, none⟩) PP.length c ∧ ∀ i (hi : i < PP.length), ∃ b o c', b < w.heap.size ∧ (w.cell? ⟨g, i, none⟩ = some (.slice (some ⟨b, o, none⟩) 2 c')) ∧ ∀ W : World, (∀ k, lo ≤ k → k < w.heap.size → W.heap[k]? = w.heap[k]?) →
     W.cell? ⟨g, i, none⟩ = some (.slice (some ⟨b, o, none⟩) 2 c') ∧ W.cell? ⟨b, o, none⟩ = some (.int .i64 PP[i].1) ∧ W.cell? ⟨b, o + 1, none⟩ = some (.int .i64 PP[i].2) := by
 obtain ⟨A, cap, rfl⟩ := Kd.R_slice (Kd.S_R hS)
 obtain ⟨hn, hcap, hC⟩ := Kd.R_reads' (Kd.S_R hS)
 rw [List.length_map]
 obtain ⟨ad, _, _, rfl, _⟩ := at_L10 hC 0 (by omega) (by rw [List.length_map]; omega)
 obtain ⟨g, rfl⟩ := Kd.R_head (Kd.S_R hS)
 refine ⟨g, cap, rfl, fun i hi => ?_⟩
 have hlen : (PP.map rowI).length = PP.length := List.length_map _
 have hg : lo ≤ g ∧ g < w.heap.size := (Kd.S_R hS).1 g rfl
 have hrd : rd_L10 (PP.map rowI) (i : Int) = [PP[i].1, PP[i].2] := by
  unfold rd_L10
  simp [List.getD, List.getElem?_eq_getElem hi, rowI]
 obtain ⟨ad, A0, c0, e, hc, hl, hK⟩ := at_L10 hC (i : Int) (by omega) (by omega)
 injection e with e
 subst e
 rw [hrd] at hc hK
 rw [add_at, Nat.zero_add, Int.toNat_natCast] at hc
 obtain ⟨ad0, x0, rfl, _, hx0, hy0⟩ := Kd.C_get hK 0 0 (by omega) (by simp)
 have q0 := hy0 0 (.int .i64 PP[i].1) (by rw [hx0]; rfl)
 obtain ⟨b, o, sp⟩ := ad0
 have hsp : sp = none := by
  cases sp with
  | none => rfl
  | some z => exfalso; simp only [World.cell?, Addr.add] at q0; split at q0 <;> simp at q0
 subst hsp
 refine ⟨b, o, c0, World.block_lt_of_cell? _ _ q0, hc, fun W hW => ?_⟩
 have hcW : W.cell? ⟨g, i, none⟩ = some (.slice (some ⟨b, o, none⟩) 2 c0) := cell_same hc (hW g hg.1 hg.2)
 have hSW := Kd.S_move hS (fun k hk => hW k hk.1 hk.2)
 obtain ⟨_, _, hCW⟩ := Kd.R_reads' (Kd.S_R hSW)
 obtain ⟨ad', A0', c0', e', hc', _, hK'⟩ := at_L10 hCW (i : Int) (by omega) (by omega)
 injection e' with e'
 subst e'
 rw [hrd] at hc' hK'
 rw [add_at, Nat.zero_add, Int.toNat_natCast] at hc'
 rw [hcW] at hc'
 injection hc' with hc'
 injection hc' with h1 h2 h3
 subst h1
 obtain ⟨ad0, x0', e0, _, hx0', hy0'⟩ := Kd.C_get hK' 0 0 (by omega) (by simp)
 injection e0 with e0
 subst e0
 obtain ⟨ad1, x1', e1, _, hx1', hy1'⟩ := Kd.C_get hK' 0 1 (by omega) (by simp)
 injection e1 with e1
 subst e1
 refine ⟨hcW, hy0' 0 _ (by rw [hx0']; rfl), hy1' 0 _ (by rw [hx1']; rfl)⟩
def partR (L : Int) (av : Int → Int → Int → Bool) (p : Int × Int) (h : Nat) : List RC := if h = 0 then [] else if h = 1 then halfR av p 0 else cellsR L av p
theorem partR_len (L : Int) (av : Int → Int → Int → Bool) (p : Int × Int) (h : Nat) : (partR L av p h).length ≤ 2 := by
 unfold partR
 split
 ·simp
 ·split
  ·exact Nat.le_trans (halfR_len av p 0) (by omega)
  ·exact cellsR_len L av p
def T11R : Bool × List (List Nat × List Nat) := (true, [([], []), ([0], [0]), ([1], [1]), ([2], [2]), ([3, 2], [2, 3]), ([4, 2], [2, 4]), ([2, 5], [2, 5]), ([6, 2], [6]), ([7], [7]), ([7], [7]), ([7], [7]), ([7], [7]), ([10, 11, 7, 7], [7, 10, 11]), ([7], [7]), ([13, 7], [7, 13]), ([7], [7]), ([7], [7]), ([14, 15, 16, 12, 7], [7, 14, 15, 16]), ([8, 9, 12, 17, 17, 7], [7, 8, 9, 12, 17]), ([7, 18], [7, 18])])
def B11R : List Nat := [0, 1, 3, 7, 15, 31, 63, 127, 255, 255, 255, 255, 3327, 255, 8447, 255, 255, 130303, 262143, 524287]
theorem tab11R : rtab .any (opsOf Tryd.f28 11) = T11R := by kernel_rfl
theorem bits11R : waitsOk T11R.2 B11R = true := by kernel_rfl
theorem rstep_walk (K : Nat) (L : Int) (B S : List Int) (A1 A2 : Option Addr) (c1 c2 : Nat) (s : List RC) (A0 : Option Addr) (c0 : Nat) (w : World)
    (hB : Kd.C (Kd.int .u64) w A1 B.length B) (hBc : B.length ≤ c1) (hS : Kd.C (Kd.int .u64) w A2 S.length S) (hSc : S.length ≤ c2) (hs : Kd.C k60 w A0 s.length s) (hc : s.length ≤ c0) (hpos : 0 < s.length) (hn : s.length ≤ 1000)
    (PP : List (Int × Int)) (hPl : XPlaces.f s = some (PP.map rowI)) (hPp : 0 < PP.length) (hPPl : PP.length ≤ 5000) (av : Int → Int → Int → Bool) (res : List RC)
    (hAv : ∀ p ∈ PP, ∀ h, (h = 0 ∨ (h = 1 ∧ L > 1)) → ∃ hb n, honeycombref04_Has.f K s p.1 p.2 h = some hb ∧ honeycombref08_neighbourhood.f K L s p.1 p.2 h = some n ∧ honeycombref05_Next.f K L B S h hb n = some (av p.1 p.2 h))
    (hOf : honeycombref04_Of.f K (PP.flatMap (cellsR L av)) = some res) :
    Calls Tryd.prog 28 #[.agg #[.int .i64 L, .slice A1 B.length c1, .slice A2 S.length c2], .slice A0 s.length c0] w fun e w' => ∃ v, e = .returned v ∧ Kd.R k60 60 w' w.heap.size (fun _ => True) v res ∧ Below w.heap.size w w' := by
 have HRB := Aside0.mk hB
 have HRS := Aside0.mk hS
 have HR := Aside0.mk hs
 have HPL := Aside0.mk hPl
 have HAV := Aside0.mk hAv
 have HOF := Aside0.mk hOf
 have hl0 : ¬ (s.length : Int) = 0 := by omega
 have hl0b : ((s.length : Int) == 0) = false := by simpa using hl0
 clear hB hS hs hPl hAv hOf
 go_enter Tryd.func28, Tryd.ntmps28
 go_wp2_with (first | ((with_reducible refine gate_dst (N := 10) rfl ?_); refine Kd.R_lit k60 _ 60 ?hg (N := 10) ?hd (xs := ([] : List RC)) (inner := []) (ok := fun _ => True) (okp := fun _ => True) ?hr ?hp (fun _ hk => hk) trivial (Below.refl _ _) (Nat.le_refl _) (by simp) ?_; (case hd => rfl); (case hg => rfl); (case hr => first | (go_simp; done) | (go_simp; rfl)); (case hp => exact (Reps.none _ _)); intro v5 w2 ho5 hb5 _ _))
 obtain ⟨w1, hw1⟩ : ∃ W, W = w.alloc (TO L A1 A2 B.length S.length c1 c2) := ⟨_, rfl⟩
 have t2 : w1.heap[w.heap.size]? = some (TO L A1 A2 B.length S.length c1 c2) := by rw [hw1]; exact blk_new _ _
 have hb1 : Below w.heap.size w w1 := by rw [hw1]; exact below_alloc (Below.refl _ _) _
 rw [← hw1] at ho5 hb5
 have hz1 := hb1.size
 have hz2 := hb5.size
 have T2 := Aside0.mk (blk_below t2 hb5)
 have HB2 := Aside0.mk (hb1.trans (hb5.mono hz1))
 have hl2 := blk_lt t2
 have hw1z : w1.heap.size = w.heap.size + 1 := by rw [hw1, World.size_alloc]
 have R5 := Aside0.mk (Kd.R_lower (Kd.R_mono (Kd.R_bound ho5) (fun k hk => by have := hk.2.1; omega)) hz1 : Kd.R k60 60 w2 w.heap.size (fun k => k ≠ w.heap.size) v5 [])
 obtain ⟨lo, hlo⟩ : ∃ n, n = w2.heap.size := ⟨_, rfl⟩
 have hg2lo : w.heap.size < lo := by omega
 have hwlo : w.heap.size ≤ lo := by omega
 clear hw1 t2 hb1 ho5 hb5 hw1z
 refine (XPlaces.calls A0 c0 s (PP.map rowI) _ (Kd.C_below HR.out HB2.out) hc HPL.out).mono ?_
 rintro e w3 ⟨v16, rfl, hS16, hb3⟩
 have hz3 := hb3.size
 obtain ⟨g16, c16, rfl, hrows⟩ := row_at (lo := lo) (Kd.S_mono (Kd.S_bound hS16) (fun k hk => ⟨by rw [hlo]; exact hk.2.1, hk.2.2.1⟩)) hPp
 have HROWS := Aside0.mk hrows
 obtain ⟨N, hN⟩ : ∃ n, n = w3.heap.size := ⟨_, rfl⟩
 rw [← hN] at HROWS
 have R5' := Aside0.mk (Kd.R_mono (Kd.R_below (Kd.R_bound R5.out) hb3) (fun k hk => ⟨.inl (by rw [hlo]; exact hk.2.2.1), hk.1⟩) : Kd.R k60 60 w3 w.heap.size (fun k => (k < lo ∨ N ≤ k) ∧ k ≠ w.heap.size) v5 [])
 have T2' := Aside0.mk (blk_below T2.out hb3)
 have HB3 := Aside0.mk (HB2.out.trans (hb3.mono (by omega)))
 have hloN : lo ≤ N := by omega
 have hN3 : N ≤ w3.heap.size := by omega
 clear hS16 hb3 hrows R5 T2 HB2 hlo hN hz1 hz2 hz3 hl2
 go_wp2_with fail
 go_loopw [5, 18] (fun ov iv ws => ∃ i : Nat, i ≤ PP.length ∧ iv = .int .i64 i ∧ Kd.R k60 60 ws w.heap.size (fun k => (k < lo ∨ N ≤ k) ∧ k ≠ w.heap.size) ov ((PP.take i).flatMap (cellsR L av)) ∧ (∀ k, lo ≤ k → k < N → ws.heap[k]? = w3.heap[k]?) ∧ ws.heap[w.heap.size]? = some (TO L A1 A2 B.length S.length c1 c2) ∧ Below w.heap.size w ws ∧ N ≤ ws.heap.size) (fun _ iv _ => PP.length - (intOf iv).toNat)
 case atStart => exact ⟨0, by omega, rfl, R5'.out, fun _ _ _ => rfl, T2'.out, HB3.out, hN3⟩
 case round =>
  obtain ⟨i, hi, rfl, hRo, hag, ht2, hbr, hNr⟩ := hrel
  have RO5 := Aside0.mk hRo
  have AG := Aside0.mk hag
  have T2 := Aside0.mk ht2
  have HBr := Aside0.mk hbr
  clear R5' T2' HB3 hRo ht2 hbr
  by_cases hlt : i < PP.length
  ·obtain ⟨b, o, c', hbN, hcell, hrow⟩ := HROWS.out i hlt
   have hmem := List.getElem_mem hlt
   have htk : (PP.take (i + 1)).flatMap (cellsR L av) = (PP.take i).flatMap (cellsR L av) ++ cellsR L av PP[i] := by rw [List.take_add_one, List.getElem?_eq_getElem hlt, List.flatMap_append]; simp
   have hflen := flatR_len L av (PP.take i)
   rw [List.length_take] at hflen
   obtain ⟨p, hp⟩ : ∃ p, p = PP[i] := ⟨_, rfl⟩
   rw [← hp] at hrow hmem htk
   have HAVp := Aside0.mk (HAV.out p hmem)
   have HROW := Aside0.mk hrow
   have HTK := Aside0.mk htk
   obtain ⟨x0, _, _⟩ := hrow wr hag
   clear hag hcell hrow hmem htk hp
   go_wp2_with fail
   clear x0
   go_loopw [5, 8] (fun ov hv ws => ∃ h : Nat, h ≤ 2 ∧ hv = .int .i64 h ∧ Kd.R k60 60 ws w.heap.size (fun k => (k < lo ∨ N ≤ k) ∧ k ≠ w.heap.size) ov ((PP.take i).flatMap (cellsR L av) ++ partR L av p h) ∧ (∀ k, lo ≤ k → k < N → ws.heap[k]? = w3.heap[k]?) ∧ ws.heap[w.heap.size]? = some (TO L A1 A2 B.length S.length c1 c2) ∧ Below w.heap.size w ws ∧ N ≤ ws.heap.size) (fun _ hv _ => 2 - (intOf hv).toNat)
   case atStart => exact ⟨0, by omega, rfl, by rw [show partR L av p 0 = [] from rfl, List.append_nil]; exact RO5.out, AG.out, T2.out, HBr.out, hNr⟩
   case round =>
    obtain ⟨h, hh, rfl, hRo, hag, ht2, hbr, hNr2⟩ := hrel
    have RO := Aside0.mk hRo
    have AGi := Aside0.mk hag
    have T2i := Aside0.mk ht2
    have HBi := Aside0.mk hbr
    clear RO5 AG T2 HBr hRo ht2 hbr
    by_cases hh2 : h < 2
    ·obtain ⟨_, x1, x2⟩ := HROW.out wr hag
     have hplen := partR_len L av p h
     have hblt : b < wr.heap.size := by omega
     have hbne : b ≠ wr.heap.size := by omega
     clear hag
     go_upto_region 10 with (fail)
     go_region
     obtain ⟨wd, hwd⟩ : ∃ W, W = (wr.alloc (RCB p.1 p.2 h)).drew := ⟨_, rfl⟩
     have t9 : wd.heap[wr.heap.size]? = some (RCB p.1 p.2 h) := by rw [hwd]; exact blk_new _ _
     have hbd : Below wr.heap.size wr wd := by rw [hwd]; exact below_drew (below_alloc (Below.refl _ _) _)
     have hzd := hbd.size
     have HBW := Aside0.mk (HBi.out.trans (hbd.mono HBi.out.size))
     have K2 := Aside0.mk (blk_below T2i.out hbd)
     have AG := Aside0.mk (fun k (h1 : lo ≤ k) (h2 : k < N) => (hbd.block k (by omega)).trans (AGi.out k h1 h2))
     have R5 := Aside0.mk (Kd.R_mono (Kd.R_below (Kd.R_bound RO.out) hbd) (fun k hk => ⟨hk.1, by have := hk.2.2.1; omega⟩) : Kd.R k60 60 wd w.heap.size (fun k => ((k < lo ∨ N ≤ k) ∧ k ≠ w.heap.size) ∧ k ≠ wr.heap.size) u5 ((PP.take i).flatMap (cellsR L av) ++ partR L av p h))
     have hNW : N ≤ wd.heap.size := by omega
     rw [← hwd]
     clear hwd hbd RO AGi T2i HBi x1 x2 hblt hbne hzd
     obtain ⟨hv, hhv⟩ : ∃ hv : Int, hv = (h : Int) := ⟨_, rfl⟩
     rw [← hhv] at t9 ⊢
     have hv01 : 0 ≤ hv ∧ hv ≤ 1 := by omega
     have HHV := Aside0.mk hhv
     have K9 := Aside0.mk t9
     clear t9
     by_cases hv0 : hv = 0
     ·have hvb : (hv == 0) = true := by simp [hv0]
      obtain ⟨hb, n, e1, e2, e3⟩ := HAVp.out hv (.inl hv0)
      have HV0 := Aside0.mk hv0
      clear hhv hv0
      go_upto_region 11 with (fail)
      have HHAS := Aside0.mk (fun W hC => honeycombref04_Has.calls K A0 c0 s p.1 p.2 hv hb W hC hc e1)
      have HNBH := Aside0.mk (fun W hC => honeycombref08_neighbourhood.calls K L A0 c0 s p.1 p.2 hv n W hC hc e2)
      have HNXT := Aside0.mk (fun W h1 h2 => honeycombref05_Next.calls K L A1 c1 B A2 c2 S hv hb n (av p.1 p.2 hv) W h1 hBc h2 hSc e3)
      clear e1 e2 e3
      have R_ := Aside0.mk (Kd.R_drew R5.out)
      have K2_ := Aside0.mk (blk_drew K2.out)
      have K9_ := Aside0.mk (blk_drew K9.out)
      have HB_ := Aside0.mk (below_drew1 HBW.out)
      have AG_ : Aside0 (∀ k, lo ≤ k → k < N → wd.drew.heap[k]? = w3.heap[k]?) := ⟨AG.out⟩
      have hNn : N ≤ wd.drew.heap.size := hNW
      clear R5 K2 K9 HBW AG hNW
      have R5 := R_; have K2 := K2_; have K9 := K9_; have HBW := HB_; have AG := AG_; have hNW := hNn
      clear R_ K2_ K9_ HB_ AG_ hNn
      refine start_ (n := 20) (S := (fun w' => w'.cell? ⟨w.heap.size, 0, none⟩ = some (.int .i64 L) ∧ w'.cell? ⟨w.heap.size, 1, none⟩ = some (.slice A1 B.length c1) ∧ w'.cell? ⟨w.heap.size, 2, none⟩ = some (.slice A2 S.length c2) ∧ w'.cell? ⟨wr.heap.size, 0, none⟩ = some (.int .i64 p.1) ∧ w'.cell? ⟨wr.heap.size, 1, none⟩ = some (.int .i64 p.2) ∧ w'.cell? ⟨wr.heap.size, 2, none⟩ = some (.int .i64 hv))) (ds := []) (m_ 20 0) (by kernel_rfl) rfl rfl ⟨(blk_cell K2.out 0).trans rfl, (blk_cell K2.out 1).trans rfl, (blk_cell K2.out 2).trans rfl, (blk_cell K9.out 0).trans rfl, (blk_cell K9.out 1).trans rfl, (blk_cell K9.out 2).trans rfl⟩ (fun hHeld => ?_)
      refine with_tabW tab11R bits11R (fun HT_ HW_ => ?_)
      generalize wd.drew = wq at R5 K2 K9 HBW AG hNW hHeld ⊢
      refine pq_ 0 (some 34) (m_ 20 1) (h := ?_)
      refine pq_ 1 (some 35) (m_ 20 3) (h := ?_)
      refine pq_ 2 (some 36) (m_ 20 7) (h := ?_)
      refine pu_ 3 (some 37) (m_ 20 15) (h := ?_)
      refine pu_ 4 (some 38) (m_ 20 31) (h := ?_)
      refine pu_ 5 (some 39) (m_ 20 63) (h := ?_)
      refine pq_ 6 (some 40) (m_ 20 127) (h := ?_)
      refine pq_ 7 (some 41) (m_ 20 255) (h := ?_)
      refine pq_ 9 (some 43) (m_ 20 767) (h := ?_)
      refine pq_ 10 (some 44) (m_ 20 1791) (h := ?_)
      refine pq_ 13 (some 47) (m_ 20 9983) (h := ?_)
      refine pq_ 15 (some 49) (m_ 20 42751) (h := ?_)
      refine tq6_ 8 (some 42) (m_ 20 43007) (h := ?_)
      refine tq6_ 11 (some 45) (m_ 20 45055) (h := ?_)
      refine tq6_ 14 (some 48) (m_ 20 61439) (h := ?_)
      refine tq6_ 16 (some 50) (m_ 20 126975) (h := ?_)
      refine one_ (i := 12) (N := some 46) (m_ 20 131071) rfl rfl (one_of HT_.out (by kernel_rfl)) (by decide) (fun K0 hK => ?_)
      refine goes_ Tryd.func63 (by kernel_rfl) rfl #[.slice A0 s.length c0, .agg #[.int .i64 p.1, .int .i64 p.2, .int .i64 hv]] (by rfl) rfl rfl (by (try simp only [List.map_toArray, List.map_cons, List.map_nil]); first | done | rfl) ?_
      with_reducible refine (HHAS.out _ (Kd.C_below HR.out HBW.out)).mono ?_
      rintro e wn ⟨rfl, hbn⟩
      refine ⟨_, rfl, ?_⟩
      have HB_ := Aside0.mk (HBW.out.trans (hbn.mono HBW.out.size)); have K2_ := Aside0.mk (blk_below K2.out hbn); have K9_ := Aside0.mk (blk_below K9.out hbn); have R_ := Aside0.mk (Kd.R_below R5.out hbn)
      have hzn := hbn.size
      have AG_ := Aside0.mk (fun k (h1 : lo ≤ k) (h2 : k < N) => (hbn.block k (by omega)).trans (AG.out k h1 h2)); have hNn : N ≤ wn.heap.size := by omega
      clear HBW K2 K9 hbn R5 AG hNW hzn; have HBW := HB_; have K2 := K2_; have K9 := K9_; have R5 := R_; have AG := AG_; have hNW := hNn; clear HB_ K2_ K9_ R_ AG_ hNn
      refine hK.out _ _ ⟨(blk_cell K2.out 0).trans rfl, (blk_cell K2.out 1).trans rfl, (blk_cell K2.out 2).trans rfl, (blk_cell K9.out 0).trans rfl, (blk_cell K9.out 1).trans rfl, (blk_cell K9.out 2).trans rfl⟩ (fun hHeld => ?_)
      clear hK K0
      refine norm_ (a' := ?_) ?_ ?_
      rotate_left
      ·show Act.put _ (some 46) _ = _
       simp only [puts_]
       rfl
      refine one_ (i := 17) (N := some 51) (m_ 20 262143) rfl rfl (one_of HT_.out (by kernel_rfl)) (by decide) (fun K0 hK => ?_)
      refine goes_ Tryd.func64 (by kernel_rfl) rfl #[.int .i64 L, .slice A0 s.length c0, .agg #[.int .i64 p.1, .int .i64 p.2, .int .i64 hv]] (by rfl) rfl rfl (by (try simp only [List.map_toArray, List.map_cons, List.map_nil]); first | done | rfl) ?_
      with_reducible refine (HNBH.out _ (Kd.C_below HR.out HBW.out)).mono ?_
      rintro e wn ⟨rfl, hbn⟩
      refine ⟨_, rfl, ?_⟩
      have HB_ := Aside0.mk (HBW.out.trans (hbn.mono HBW.out.size)); have K2_ := Aside0.mk (blk_below K2.out hbn); have K9_ := Aside0.mk (blk_below K9.out hbn); have R_ := Aside0.mk (Kd.R_below R5.out hbn)
      have hzn := hbn.size
      have AG_ := Aside0.mk (fun k (h1 : lo ≤ k) (h2 : k < N) => (hbn.block k (by omega)).trans (AG.out k h1 h2)); have hNn : N ≤ wn.heap.size := by omega
      clear HBW K2 K9 hbn R5 AG hNW hzn; have HBW := HB_; have K2 := K2_; have K9 := K9_; have R5 := R_; have AG := AG_; have hNW := hNn; clear HB_ K2_ K9_ R_ AG_ hNn
      refine hK.out _ _ ⟨(blk_cell K2.out 0).trans rfl, (blk_cell K2.out 1).trans rfl, (blk_cell K2.out 2).trans rfl, (blk_cell K9.out 0).trans rfl, (blk_cell K9.out 1).trans rfl, (blk_cell K9.out 2).trans rfl⟩ (fun hHeld => ?_)
      clear hK K0
      refine norm_ (a' := ?_) ?_ ?_
      rotate_left
      ·show Act.put _ (some 51) _ = _
       simp only [puts_]
       rfl
      refine one_ (i := 18) (N := some 52) (m_ 20 524287) rfl rfl (one_of HT_.out (by kernel_rfl)) (by decide) (fun K0 hK => ?_)
      refine goes_ Tryd.func35 (by kernel_rfl) rfl #[.agg #[.int .i64 L, .slice A1 B.length c1, .slice A2 S.length c2], .int .i64 hv, .bool hb, .int .i64 n] (by rfl) rfl rfl (by (try simp only [List.map_toArray, List.map_cons, List.map_nil]); first | done | rfl) ?_
      with_reducible refine (HNXT.out _ (Kd.C_below HRB.out HBW.out) (Kd.C_below HRS.out HBW.out)).mono ?_
      rintro e wn ⟨rfl, hbn⟩
      refine ⟨_, rfl, ?_⟩
      have HB_ := Aside0.mk (HBW.out.trans (hbn.mono HBW.out.size)); have K2_ := Aside0.mk (blk_below K2.out hbn); have K9_ := Aside0.mk (blk_below K9.out hbn); have R_ := Aside0.mk (Kd.R_below R5.out hbn)
      have hzn := hbn.size
      have AG_ := Aside0.mk (fun k (h1 : lo ≤ k) (h2 : k < N) => (hbn.block k (by omega)).trans (AG.out k h1 h2)); have hNn : N ≤ wn.heap.size := by omega
      clear HBW K2 K9 hbn R5 AG hNW hzn; have HBW := HB_; have K2 := K2_; have K9 := K9_; have R5 := R_; have AG := AG_; have hNW := hNn; clear HB_ K2_ K9_ R_ AG_ hNn
      refine hK.out _ _ ⟨(blk_cell K2.out 0).trans rfl, (blk_cell K2.out 1).trans rfl, (blk_cell K2.out 2).trans rfl, (blk_cell K9.out 0).trans rfl, (blk_cell K9.out 1).trans rfl, (blk_cell K9.out 2).trans rfl⟩ (fun hHeld => ?_)
      clear hK K0
      refine norm_ (a' := ?_) ?_ ?_
      rotate_left
      ·show Act.put _ (some 52) _ = _
       simp only [puts_]
       rfl
      refine pq_ 19 (some 53) (m_ 20 1048575) (h := ?_)
      refine done_ (done_of HT_.out (by kernel_rfl)) ?_
      all_goals (
       have k0 := blk_cell K9.out 0
       have k1 := blk_cell K9.out 1
       have k2 := blk_cell K9.out 2
       simp only [List.getElem?_toArray, List.getElem?_cons_zero, List.getElem?_cons_succ] at k0 k1 k2
       have hpt : partR L av p (h + 1) = partR L av p h ++ halfR av p hv := by have := HHV.out; have := HV0.out; have e : h = 0 := (by omega); subst e; rw [HV0.out] <;> rfl
       have HPT := Aside0.mk hpt
       have hfr := blk_lt K9.out
       have hwz := HBW.out.size
       have hwi : IntKind.i64.wrap (hv + 1) = hv + 1 := by rw [IntKind.wrap_i64]; omega
       clear hpt
       obtain ⟨Bv, hBv⟩ : ∃ Bv, Bv = av p.1 p.2 hv := ⟨_, rfl⟩
       have hhr : halfR av p hv = if Bv = true then [⟨p.1, p.2, hv⟩] else [] := by rw [hBv]; rfl
       have HHR := Aside0.mk hhr
       rw [← hBv]
       clear hBv hhr
       cases Bv with
       | true =>
        go_wp2_with (first
         | (at_builtin; refine app1k (fun k => ((k < lo ∨ N ≤ k) ∧ k ≠ w.heap.size) ∧ k ≠ wr.heap.size) k60 w.heap.size (.tmp 54) (.tmp 56) 45 60 (.agg #[.int .i64 0, .int .i64 0, .int .i64 0]) 24 _ ((PP.take i).flatMap (cellsR L av) ++ partR L av p h) ⟨p.1, p.2, hv⟩ [.int .i64 p.1, .int .i64 p.2, .int .i64 hv] _ rfl rfl Tryd.underlying45 info60 rfl (by decide) (by decide) rfl (by simp; done) rfl (k60_mkM _ _ _ _) (fun k hk => ⟨⟨by omega, by omega⟩, by omega⟩) R5.out (by omega) (by rw [List.length_append]; omega) ?_
            intro v7 w7 ho7 hb7 hk7
            have hz7 := hb7.size
            have O7 := Aside0.mk (Kd.R_mono ho7 (fun k hk => hk.1))
            have T7 := Aside0.mk ((hk7 w.heap.size (by omega) (fun h => h.1.2 rfl)).trans K2.out)
            have G7 := Aside0.mk (fun k (h1 : lo ≤ k) (h2 : k < N) => (hk7 k (by omega) (fun h => by omega)).trans (AG.out k h1 h2))
            have HB7 := Aside0.mk (HBW.out.trans hb7)
            clear ho7 hb7 hk7 k0 k1 k2))
        go_roundw
        case rel => exact ⟨h + 1, by omega, by rw [HHV.out]; go_num, by rw [HPT.out, HHR.out, if_pos rfl, ← List.append_assoc]; exact O7.out, G7.out, T7.out, HB7.out, by omega⟩
        case measure => simp [intOf, HHV.out]; omega
       | false =>
        go_wp2
        go_roundw
        case rel => exact ⟨h + 1, by omega, by rw [HHV.out]; go_num, by rw [HPT.out, HHR.out, if_neg (by decide), List.append_nil]; exact Kd.R_mono R5.out (fun k hk => hk.1), AG.out, K2.out, HBW.out, by omega⟩
        case measure => simp [intOf, HHV.out]; omega)
     ·have hvb : (hv == 0) = false := by simp [hv0]
      have hv1 : hv = 1 := by omega
      by_cases hL1 : L > 1
      ·have hd1 : decide (1 < L) = true := decide_eq_true hL1
       obtain ⟨hb, n, e1, e2, e3⟩ := HAVp.out hv (.inr ⟨hv1, hL1⟩)
       have HL1 := Aside0.mk hL1
       have HV1 := Aside0.mk hv1
       clear hhv hv0 hv1 hL1
       go_upto_region 11 with (fail)
       have HHAS := Aside0.mk (fun W hC => honeycombref04_Has.calls K A0 c0 s p.1 p.2 hv hb W hC hc e1)
       have HNBH := Aside0.mk (fun W hC => honeycombref08_neighbourhood.calls K L A0 c0 s p.1 p.2 hv n W hC hc e2)
       have HNXT := Aside0.mk (fun W h1 h2 => honeycombref05_Next.calls K L A1 c1 B A2 c2 S hv hb n (av p.1 p.2 hv) W h1 hBc h2 hSc e3)
       clear e1 e2 e3
       have R_ := Aside0.mk (Kd.R_drew R5.out)
       have K2_ := Aside0.mk (blk_drew K2.out)
       have K9_ := Aside0.mk (blk_drew K9.out)
       have HB_ := Aside0.mk (below_drew1 HBW.out)
       have AG_ : Aside0 (∀ k, lo ≤ k → k < N → wd.drew.heap[k]? = w3.heap[k]?) := ⟨AG.out⟩
       have hNn : N ≤ wd.drew.heap.size := hNW
       clear R5 K2 K9 HBW AG hNW
       have R5 := R_; have K2 := K2_; have K9 := K9_; have HBW := HB_; have AG := AG_; have hNW := hNn
       clear R_ K2_ K9_ HB_ AG_ hNn
       refine start_ (n := 20) (S := (fun w' => w'.cell? ⟨w.heap.size, 0, none⟩ = some (.int .i64 L) ∧ w'.cell? ⟨w.heap.size, 1, none⟩ = some (.slice A1 B.length c1) ∧ w'.cell? ⟨w.heap.size, 2, none⟩ = some (.slice A2 S.length c2) ∧ w'.cell? ⟨wr.heap.size, 0, none⟩ = some (.int .i64 p.1) ∧ w'.cell? ⟨wr.heap.size, 1, none⟩ = some (.int .i64 p.2) ∧ w'.cell? ⟨wr.heap.size, 2, none⟩ = some (.int .i64 hv))) (ds := []) (m_ 20 0) (by kernel_rfl) rfl rfl ⟨(blk_cell K2.out 0).trans rfl, (blk_cell K2.out 1).trans rfl, (blk_cell K2.out 2).trans rfl, (blk_cell K9.out 0).trans rfl, (blk_cell K9.out 1).trans rfl, (blk_cell K9.out 2).trans rfl⟩ (fun hHeld => ?_)
       refine with_tabW tab11R bits11R (fun HT_ HW_ => ?_)
       generalize wd.drew = wq at R5 K2 K9 HBW AG hNW hHeld ⊢
       refine pq_ 0 (some 34) (m_ 20 1) (h := ?_)
       refine pq_ 1 (some 35) (m_ 20 3) (h := ?_)
       refine pq_ 2 (some 36) (m_ 20 7) (h := ?_)
       refine pq_ 3 (some 37) (m_ 20 15) (h := ?_)
       refine tq6_ 4 (some 38) (m_ 20 31) (h := ?_)
       refine pq_ 5 (some 39) (m_ 20 63) (h := ?_)
       refine pq_ 6 (some 40) (m_ 20 127) (h := ?_)
       refine pq_ 7 (some 41) (m_ 20 255) (h := ?_)
       refine pq_ 9 (some 43) (m_ 20 767) (h := ?_)
       refine pq_ 10 (some 44) (m_ 20 1791) (h := ?_)
       refine pq_ 13 (some 47) (m_ 20 9983) (h := ?_)
       refine pq_ 15 (some 49) (m_ 20 42751) (h := ?_)
       refine tq6_ 8 (some 42) (m_ 20 43007) (h := ?_)
       refine tq6_ 11 (some 45) (m_ 20 45055) (h := ?_)
       refine tq6_ 14 (some 48) (m_ 20 61439) (h := ?_)
       refine tq6_ 16 (some 50) (m_ 20 126975) (h := ?_)
       refine one_ (i := 12) (N := some 46) (m_ 20 131071) rfl rfl (one_of HT_.out (by kernel_rfl)) (by decide) (fun K0 hK => ?_)
       refine goes_ Tryd.func63 (by kernel_rfl) rfl #[.slice A0 s.length c0, .agg #[.int .i64 p.1, .int .i64 p.2, .int .i64 hv]] (by rfl) rfl rfl (by (try simp only [List.map_toArray, List.map_cons, List.map_nil]); first | done | rfl) ?_
       with_reducible refine (HHAS.out _ (Kd.C_below HR.out HBW.out)).mono ?_
       rintro e wn ⟨rfl, hbn⟩
       refine ⟨_, rfl, ?_⟩
       have HB_ := Aside0.mk (HBW.out.trans (hbn.mono HBW.out.size)); have K2_ := Aside0.mk (blk_below K2.out hbn); have K9_ := Aside0.mk (blk_below K9.out hbn); have R_ := Aside0.mk (Kd.R_below R5.out hbn)
       have hzn := hbn.size
       have AG_ := Aside0.mk (fun k (h1 : lo ≤ k) (h2 : k < N) => (hbn.block k (by omega)).trans (AG.out k h1 h2)); have hNn : N ≤ wn.heap.size := by omega
       clear HBW K2 K9 hbn R5 AG hNW hzn; have HBW := HB_; have K2 := K2_; have K9 := K9_; have R5 := R_; have AG := AG_; have hNW := hNn; clear HB_ K2_ K9_ R_ AG_ hNn
       refine hK.out _ _ ⟨(blk_cell K2.out 0).trans rfl, (blk_cell K2.out 1).trans rfl, (blk_cell K2.out 2).trans rfl, (blk_cell K9.out 0).trans rfl, (blk_cell K9.out 1).trans rfl, (blk_cell K9.out 2).trans rfl⟩ (fun hHeld => ?_)
       clear hK K0
       refine norm_ (a' := ?_) ?_ ?_
       rotate_left
       ·show Act.put _ (some 46) _ = _
        simp only [puts_]
        rfl
       refine one_ (i := 17) (N := some 51) (m_ 20 262143) rfl rfl (one_of HT_.out (by kernel_rfl)) (by decide) (fun K0 hK => ?_)
       refine goes_ Tryd.func64 (by kernel_rfl) rfl #[.int .i64 L, .slice A0 s.length c0, .agg #[.int .i64 p.1, .int .i64 p.2, .int .i64 hv]] (by rfl) rfl rfl (by (try simp only [List.map_toArray, List.map_cons, List.map_nil]); first | done | rfl) ?_
       with_reducible refine (HNBH.out _ (Kd.C_below HR.out HBW.out)).mono ?_
       rintro e wn ⟨rfl, hbn⟩
       refine ⟨_, rfl, ?_⟩
       have HB_ := Aside0.mk (HBW.out.trans (hbn.mono HBW.out.size)); have K2_ := Aside0.mk (blk_below K2.out hbn); have K9_ := Aside0.mk (blk_below K9.out hbn); have R_ := Aside0.mk (Kd.R_below R5.out hbn)
       have hzn := hbn.size
       have AG_ := Aside0.mk (fun k (h1 : lo ≤ k) (h2 : k < N) => (hbn.block k (by omega)).trans (AG.out k h1 h2)); have hNn : N ≤ wn.heap.size := by omega
       clear HBW K2 K9 hbn R5 AG hNW hzn; have HBW := HB_; have K2 := K2_; have K9 := K9_; have R5 := R_; have AG := AG_; have hNW := hNn; clear HB_ K2_ K9_ R_ AG_ hNn
       refine hK.out _ _ ⟨(blk_cell K2.out 0).trans rfl, (blk_cell K2.out 1).trans rfl, (blk_cell K2.out 2).trans rfl, (blk_cell K9.out 0).trans rfl, (blk_cell K9.out 1).trans rfl, (blk_cell K9.out 2).trans rfl⟩ (fun hHeld => ?_)
       clear hK K0
       refine norm_ (a' := ?_) ?_ ?_
       rotate_left
       ·show Act.put _ (some 51) _ = _
        simp only [puts_]
        rfl
       refine one_ (i := 18) (N := some 52) (m_ 20 524287) rfl rfl (one_of HT_.out (by kernel_rfl)) (by decide) (fun K0 hK => ?_)
       refine goes_ Tryd.func35 (by kernel_rfl) rfl #[.agg #[.int .i64 L, .slice A1 B.length c1, .slice A2 S.length c2], .int .i64 hv, .bool hb, .int .i64 n] (by rfl) rfl rfl (by (try simp only [List.map_toArray, List.map_cons, List.map_nil]); first | done | rfl) ?_
       with_reducible refine (HNXT.out _ (Kd.C_below HRB.out HBW.out) (Kd.C_below HRS.out HBW.out)).mono ?_
       rintro e wn ⟨rfl, hbn⟩
       refine ⟨_, rfl, ?_⟩
       have HB_ := Aside0.mk (HBW.out.trans (hbn.mono HBW.out.size)); have K2_ := Aside0.mk (blk_below K2.out hbn); have K9_ := Aside0.mk (blk_below K9.out hbn); have R_ := Aside0.mk (Kd.R_below R5.out hbn)
       have hzn := hbn.size
       have AG_ := Aside0.mk (fun k (h1 : lo ≤ k) (h2 : k < N) => (hbn.block k (by omega)).trans (AG.out k h1 h2)); have hNn : N ≤ wn.heap.size := by omega
       clear HBW K2 K9 hbn R5 AG hNW hzn; have HBW := HB_; have K2 := K2_; have K9 := K9_; have R5 := R_; have AG := AG_; have hNW := hNn; clear HB_ K2_ K9_ R_ AG_ hNn
       refine hK.out _ _ ⟨(blk_cell K2.out 0).trans rfl, (blk_cell K2.out 1).trans rfl, (blk_cell K2.out 2).trans rfl, (blk_cell K9.out 0).trans rfl, (blk_cell K9.out 1).trans rfl, (blk_cell K9.out 2).trans rfl⟩ (fun hHeld => ?_)
       clear hK K0
       refine norm_ (a' := ?_) ?_ ?_
       rotate_left
       ·show Act.put _ (some 52) _ = _
        simp only [puts_]
        rfl
       refine pq_ 19 (some 53) (m_ 20 1048575) (h := ?_)
       refine done_ (done_of HT_.out (by kernel_rfl)) ?_
       all_goals (
        have k0 := blk_cell K9.out 0
        have k1 := blk_cell K9.out 1
        have k2 := blk_cell K9.out 2
        simp only [List.getElem?_toArray, List.getElem?_cons_zero, List.getElem?_cons_succ] at k0 k1 k2
        have hpt : partR L av p (h + 1) = partR L av p h ++ halfR av p hv := by have := HHV.out; have := HV1.out; have e : h = 1 := (by omega); subst e; rw [HV1.out] <;> (unfold partR cellsR; simp [HL1.out])
        have HPT := Aside0.mk hpt
        have hfr := blk_lt K9.out
        have hwz := HBW.out.size
        have hwi : IntKind.i64.wrap (hv + 1) = hv + 1 := by rw [IntKind.wrap_i64]; omega
        clear hpt
        obtain ⟨Bv, hBv⟩ : ∃ Bv, Bv = av p.1 p.2 hv := ⟨_, rfl⟩
        have hhr : halfR av p hv = if Bv = true then [⟨p.1, p.2, hv⟩] else [] := by rw [hBv]; rfl
        have HHR := Aside0.mk hhr
        rw [← hBv]
        clear hBv hhr
        cases Bv with
        | true =>
         go_wp2_with (first
          | (at_builtin; refine app1k (fun k => ((k < lo ∨ N ≤ k) ∧ k ≠ w.heap.size) ∧ k ≠ wr.heap.size) k60 w.heap.size (.tmp 54) (.tmp 56) 45 60 (.agg #[.int .i64 0, .int .i64 0, .int .i64 0]) 24 _ ((PP.take i).flatMap (cellsR L av) ++ partR L av p h) ⟨p.1, p.2, hv⟩ [.int .i64 p.1, .int .i64 p.2, .int .i64 hv] _ rfl rfl Tryd.underlying45 info60 rfl (by decide) (by decide) rfl (by simp; done) rfl (k60_mkM _ _ _ _) (fun k hk => ⟨⟨by omega, by omega⟩, by omega⟩) R5.out (by omega) (by rw [List.length_append]; omega) ?_
             intro v7 w7 ho7 hb7 hk7
             have hz7 := hb7.size
             have O7 := Aside0.mk (Kd.R_mono ho7 (fun k hk => hk.1))
             have T7 := Aside0.mk ((hk7 w.heap.size (by omega) (fun h => h.1.2 rfl)).trans K2.out)
             have G7 := Aside0.mk (fun k (h1 : lo ≤ k) (h2 : k < N) => (hk7 k (by omega) (fun h => by omega)).trans (AG.out k h1 h2))
             have HB7 := Aside0.mk (HBW.out.trans hb7)
             clear ho7 hb7 hk7 k0 k1 k2))
         go_roundw
         case rel => exact ⟨h + 1, by omega, by rw [HHV.out]; go_num, by rw [HPT.out, HHR.out, if_pos rfl, ← List.append_assoc]; exact O7.out, G7.out, T7.out, HB7.out, by omega⟩
         case measure => simp [intOf, HHV.out]; omega
        | false =>
         go_wp2
         go_roundw
         case rel => exact ⟨h + 1, by omega, by rw [HHV.out]; go_num, by rw [HPT.out, HHR.out, if_neg (by decide), List.append_nil]; exact Kd.R_mono R5.out (fun k hk => hk.1), AG.out, K2.out, HBW.out, by omega⟩
         case measure => simp [intOf, HHV.out]; omega)
      ·have hd1 : decide (1 < L) = false := decide_eq_false hL1
       have hpt : partR L av p (h + 1) = partR L av p h := by have e : h = 1 := by omega
                                                              subst e; unfold partR cellsR; simp [hL1]
       have HPT := Aside0.mk hpt
       clear hpt hv1 hL1 hhv hv0
       go_upto_region 11 with (fail)
       have R_ := Aside0.mk (Kd.R_drew R5.out)
       have K2_ := Aside0.mk (blk_drew K2.out)
       have K9_ := Aside0.mk (blk_drew K9.out)
       have HB_ := Aside0.mk (below_drew1 HBW.out)
       have AG_ : Aside0 (∀ k, lo ≤ k → k < N → wd.drew.heap[k]? = w3.heap[k]?) := ⟨AG.out⟩
       have hNn : N ≤ wd.drew.heap.size := hNW
       clear R5 K2 K9 HBW AG hNW
       have R5 := R_; have K2 := K2_; have K9 := K9_; have HBW := HB_; have AG := AG_; have hNW := hNn
       clear R_ K2_ K9_ HB_ AG_ hNn
       refine start_ (n := 20) (S := (fun w' => w'.cell? ⟨w.heap.size, 0, none⟩ = some (.int .i64 L) ∧ w'.cell? ⟨w.heap.size, 1, none⟩ = some (.slice A1 B.length c1) ∧ w'.cell? ⟨w.heap.size, 2, none⟩ = some (.slice A2 S.length c2) ∧ w'.cell? ⟨wr.heap.size, 0, none⟩ = some (.int .i64 p.1) ∧ w'.cell? ⟨wr.heap.size, 1, none⟩ = some (.int .i64 p.2) ∧ w'.cell? ⟨wr.heap.size, 2, none⟩ = some (.int .i64 hv))) (ds := []) (m_ 20 0) (by kernel_rfl) rfl rfl ⟨(blk_cell K2.out 0).trans rfl, (blk_cell K2.out 1).trans rfl, (blk_cell K2.out 2).trans rfl, (blk_cell K9.out 0).trans rfl, (blk_cell K9.out 1).trans rfl, (blk_cell K9.out 2).trans rfl⟩ (fun hHeld => ?_)
       refine with_tabW tab11R bits11R (fun HT_ HW_ => ?_)
       generalize wd.drew = wq at R5 K2 K9 HBW AG hNW hHeld ⊢
       refine pq_ 0 (some 34) (m_ 20 1) (h := ?_)
       refine pq_ 1 (some 35) (m_ 20 3) (h := ?_)
       refine pq_ 2 (some 36) (m_ 20 7) (h := ?_)
       refine pq_ 3 (some 37) (m_ 20 15) (h := ?_)
       refine tq6_ 4 (some 38) (m_ 20 31) (h := ?_)
       refine pq_ 5 (some 39) (m_ 20 63) (h := ?_)
       refine pq_ 6 (some 40) (m_ 20 127) (h := ?_)
       refine pq_ 7 (some 41) (m_ 20 255) (h := ?_)
       refine pu_ 8 (some 42) (m_ 20 511) (h := ?_)
       refine pu_ 9 (some 43) (m_ 20 1023) (h := ?_)
       refine pu_ 10 (some 44) (m_ 20 2047) (h := ?_)
       refine pu_ 11 (some 45) (m_ 20 4095) (h := ?_)
       refine pu_ 12 (some 46) (m_ 20 8191) (h := ?_)
       refine pu_ 13 (some 47) (m_ 20 16383) (h := ?_)
       refine pu_ 14 (some 48) (m_ 20 32767) (h := ?_)
       refine pu_ 15 (some 49) (m_ 20 65535) (h := ?_)
       refine pu_ 16 (some 50) (m_ 20 131071) (h := ?_)
       refine pu_ 17 (some 51) (m_ 20 262143) (h := ?_)
       refine pu_ 18 (some 52) (m_ 20 524287) (h := ?_)
       refine pq_ 19 (some 53) (m_ 20 1048575) (h := ?_)
       refine done_ (done_of HT_.out (by kernel_rfl)) ?_
       have hfr := blk_lt K9.out
       have hwz := HBW.out.size
       have hwi : IntKind.i64.wrap (hv + 1) = hv + 1 := by rw [IntKind.wrap_i64]; omega
       go_wp2
       go_roundw
       case rel => exact ⟨h + 1, by omega, by rw [HHV.out]; go_num, by rw [HPT.out]; exact Kd.R_mono R5.out (fun k hk => hk.1), AG.out, K2.out, HBW.out, by omega⟩
       case measure => simp [intOf, HHV.out]; omega
    ·obtain rfl : h = 2 := by omega
     have hwi : IntKind.i64.wrap ((i : Int) + 1) = (i : Int) + 1 := by rw [IntKind.wrap_i64]; omega
     clear hag
     go_wp2
     go_roundw
     case rel => exact ⟨i + 1, by omega, by go_num, by rw [HTK.out]; exact RO.out, AGi.out, T2i.out, HBi.out, hNr2⟩
     case measure => simp [intOf]; omega
  ·obtain rfl : i = PP.length := by omega
   rw [List.take_length] at RO5
   obtain ⟨Ao, co, eo⟩ := Kd.R_slice RO5.out
   subst eo
   clear hag
   go_wp2_with (first | ((with_reducible refine gate_callee (f := 65) rfl ?_)
                         refine goesL_ (some 60) rfl rfl Tryd.func65 (by kernel_rfl) rfl #[.slice Ao (PP.flatMap (cellsR L av)).length co] rfl (by (try simp only [List.map_toArray, List.map_cons, List.map_nil]); first | done | rfl) ?_
                         (with_reducible refine (honeycombref04_Of.calls K Ao co (PP.flatMap (cellsR L av)) res _ (Kd.R_reads' RO5.out).2.2 (by have := (Kd.R_reads' RO5.out).1; have := (Kd.R_reads' RO5.out).2.1; omega) HOF.out).mono ?_)
                         rintro e w9 ⟨v9, rfl, ho9, hb9⟩
                         refine ⟨_, rfl, ?_⟩))
   go_ret
   exact ⟨_, rfl, Kd.R_lower ho9 (by have := HBr.out.size; omega), HBr.out.trans (hb9.mono HBr.out.size)⟩
theorem rstep_empty (L : Int) (B S : List Int) (A1 A2 : Option Addr) (c1 c2 : Nat) (A0 : Option Addr) (c0 : Nat) (w : World) :
    Calls Tryd.prog 28 #[.agg #[.int .i64 L, .slice A1 B.length c1, .slice A2 S.length c2], .slice A0 0 c0] w fun e w' => ∃ v, e = .returned v ∧ Kd.R k60 60 w' w.heap.size (fun _ => True) v ([] : List RC) ∧ Below w.heap.size w w' := by
 go_enter Tryd.func28, Tryd.ntmps28
 go_wp2_with (first | ((with_reducible refine gate_dst (N := 10) rfl ?_); refine Kd.R_lit k60 _ 60 ?hg (N := 10) ?hd (xs := ([] : List RC)) (inner := []) (ok := fun _ => True) (okp := fun _ => True) ?hr ?hp (fun _ hk => hk) trivial (Below.refl _ _) (Nat.le_refl _) (by simp) ?_; (case hd => rfl); (case hg => rfl); (case hr => first | (go_simp; done) | (go_simp; rfl)); (case hp => exact (Reps.none _ _)); intro v5 w2 ho5 hb5 _ _))
 go_ret
 obtain ⟨w1, hw1⟩ : ∃ W, W = w.alloc (TO L A1 A2 B.length S.length c1 c2) := ⟨_, rfl⟩
 have hb1 : Below w.heap.size w w1 := by rw [hw1]; exact below_alloc (Below.refl _ _) _
 rw [← hw1] at ho5 hb5
 exact ⟨_, rfl, Kd.R_lower (Kd.R_mono ho5 (fun _ _ => trivial)) hb1.size, hb1.trans (hb5.mono hb1.size)⟩
def pairI (r : List Int) : Int × Int := (rd r 0, rd r 1)
abbrev KR : Nat := 20000
def avR (L : Int) (B S : List Int) (s : List RC) (a b h : Int) : Option Bool := (honeycombref04_Has.f KR s a b h).bind fun hb => (honeycombref08_neighbourhood.f KR L s a b h).bind fun n => honeycombref05_Next.f KR L B S h hb n
def XRStep.f (L : Int) (B S : List Int) (s : List RC) : Option (List RC) :=
 if s.length = 0 then some [] else if s.length ≤ 1000 then (XPlaces.f s).bind fun pl => if pl = (pl.map pairI).map rowI ∧ 0 < pl.length ∧ pl.length ≤ 5000 ∧ ((pl.map pairI).all fun p => (avR L B S s p.1 p.2 0).isSome && (decide (L ≤ 1) || (avR L B S s p.1 p.2 1).isSome)) = true then honeycombref04_Of.f KR ((pl.map pairI).flatMap (cellsR L fun a b h => (avR L B S s a b h).getD false)) else none else none
theorem XRStep.calls (a0_0 : Int) (A0_1 : Option Addr) (c0_1 : Nat) (l0_1 : List Int) (A0_2 : Option Addr) (c0_2 : Nat) (l0_2 : List Int) (A1 : Option Addr) (c1 : Nat) (l1 : List RC) (r : List RC) (w : World) (hr0_1 : Kd.C (Kd.int .u64) w A0_1 l0_1.length l0_1) (hc0_1 : l0_1.length ≤ c0_1) (hr0_2 : Kd.C (Kd.int .u64) w A0_2 l0_2.length l0_2) (hc0_2 : l0_2.length ≤ c0_2) (hr1 : Kd.C k60 w A1 l1.length l1) (hc1 : l1.length ≤ c1) (h : XRStep.f a0_0 l0_1 l0_2 l1 = some r) :
    Calls Tryd.prog 28 #[.agg #[.int .i64 a0_0, .slice A0_1 l0_1.length c0_1, .slice A0_2 l0_2.length c0_2], .slice A1 l1.length c1] w fun e w' => ∃ v0_ : Value, e = .returned v0_ ∧ Kd.R k60 60 w' w.heap.size (fun _ => True) v0_ r ∧ Below w.heap.size w w' := by
 unfold XRStep.f at h
 by_cases h0 : l1.length = 0
 ·rw [if_pos h0] at h
  obtain rfl := Option.some.inj h
  rw [h0]
  exact rstep_empty a0_0 l0_1 l0_2 A0_1 A0_2 c0_1 c0_2 A1 c1 w
 ·rw [if_neg h0] at h
  by_cases h1 : l1.length ≤ 1000
  ·rw [if_pos h1] at h
   obtain ⟨pl, hpl, h⟩ := Option.bind_eq_some_iff.mp h
   by_cases h2 : pl = (pl.map pairI).map rowI ∧ 0 < pl.length ∧ pl.length ≤ 5000 ∧ ((pl.map pairI).all fun p => (avR a0_0 l0_1 l0_2 l1 p.1 p.2 0).isSome && (decide (a0_0 ≤ 1) || (avR a0_0 l0_1 l0_2 l1 p.1 p.2 1).isSome)) = true
   ·rw [if_pos h2] at h
    obtain ⟨e, p0, p1, hall⟩ := h2
    rw [e] at hpl
    refine rstep_walk KR a0_0 l0_1 l0_2 A0_1 A0_2 c0_1 c0_2 l1 A1 c1 w hr0_1 hc0_1 hr0_2 hc0_2 hr1 hc1 (by omega) h1 (pl.map pairI) hpl (by rw [List.length_map]; exact p0) (by rw [List.length_map]; exact p1) (fun a b h => (avR a0_0 l0_1 l0_2 l1 a b h).getD false) r ?_ h
    intro p hp hh hcase
    have hq := List.all_eq_true.1 hall p hp
    rw [Bool.and_eq_true] at hq
    have hs : (avR a0_0 l0_1 l0_2 l1 p.1 p.2 hh).isSome = true := by
     rcases hcase with rfl | ⟨rfl, hL⟩
     ·exact hq.1
     ·have := hq.2
      rw [decide_eq_false (by omega), Bool.false_or] at this
      exact this
    obtain ⟨v, hv⟩ := Option.isSome_iff_exists.1 hs
    have hv' := hv
    unfold avR at hv'
    obtain ⟨hb, e1, h'⟩ := Option.bind_eq_some_iff.mp hv'
    obtain ⟨n, e2, e3⟩ := Option.bind_eq_some_iff.mp h'
    refine ⟨hb, n, e1, e2, ?_⟩
    rw [e3, hv]
    rfl
   ·rw [if_neg h2] at h
    cases h
  ·rw [if_neg h1] at h
   cases h
section
def aliveB (nx : Rul) (l : Int) (s : List CL) (c : CL) : Bool := nx c.f1 (decide (c ∈ s)) (ngh l s c)
def halfP (nx : Rul) (l : Int) (s : List CL) (p : Int × Int) (h : Int) : List CL := if aliveB nx l s (mk p.1 p.2 h) = true then [mk p.1 p.2 h] else []
def cellsP (nx : Rul) (l : Int) (s : List CL) (p : Int × Int) : List CL := halfP nx l s p 0 ++ (if l > 1 then halfP nx l s p 1 else [])
theorem halfP_len (nx : Rul) (l : Int) (s : List CL) (p : Int × Int) (h : Int) : (halfP nx l s p h).length ≤ 1 := by unfold halfP; split <;> simp
theorem cellsP_len (nx : Rul) (l : Int) (s : List CL) (p : Int × Int) : (cellsP nx l s p).length ≤ 2 := by
 have h0 := halfP_len nx l s p 0
 have h1 := halfP_len nx l s p 1
 unfold cellsP
 rw [List.length_append]
 split <;> simp <;> omega
theorem cellsP_mem (nx : Rul) (l : Int) (hl : 1 ≤ l ∧ l ≤ 3) (s : List CL) (p : Int × Int) (x : CL) : x ∈ cellsP nx l s p ↔ (x.f0.f0 = p.1 ∧ x.f0.f1 = p.2) ∧ hOK l x.f1 ∧ aliveB nx l s x = true := by
 have hh : ∀ h, x ∈ halfP nx l s p h ↔ x = mk p.1 p.2 h ∧ aliveB nx l s x = true := by
  intro h
  unfold halfP
  split
  ·next ha => simp only [List.mem_singleton]; exact ⟨fun e => ⟨e, e ▸ ha⟩, fun e => e.1⟩
  ·next ha => simp only [List.not_mem_nil, false_iff]; exact fun e => ha (e.1 ▸ e.2)
 unfold cellsP
 rw [List.mem_append, hh]
 constructor
 ·rintro (⟨rfl, ha⟩ | h)
  ·exact ⟨⟨rfl, rfl⟩, ⟨.inl rfl, fun _ => rfl⟩, ha⟩
  ·split at h
   ·next h1 =>
    obtain ⟨rfl, ha⟩ := (hh 1).1 h
    exact ⟨⟨rfl, rfl⟩, ⟨.inr rfl, fun e => by omega⟩, ha⟩
   ·cases h
 ·rintro ⟨⟨e1, e2⟩, ⟨h0 | h0, h1⟩, ha⟩
  ·exact .inl ⟨cl_of e1 e2 h0, ha⟩
  ·refine .inr ?_
   rw [if_pos (show l > 1 by
    rcases Int.lt_or_le 1 l with h | h
    ·exact h
    ·have := h1 (by omega); omega)]
   exact (hh 1).2 ⟨cl_of e1 e2 h0, ha⟩
def pairsL (b : B4) (n : Nat) : List (Int × Int) := (List.range n).flatMap fun i : Nat => (List.range (b.2.2.1 - b.1 + 3).toNat).map fun j : Nat => (b.1 - 1 + (j : Int), b.2.1 - 1 + (i : Int))
theorem places_pairs (b : B4) (n : Nat) : placesL b n = (pairsL b n).map rowI := by
 unfold placesL pairsL rowP
 rw [List.map_flatMap]
 congr 1
 funext i
 rw [List.map_map]
 rfl
theorem mem_pairs (b : B4) (n : Nat) (hn : (n : Int) = b.2.2.2 - b.2.1 + 3) (p : Int × Int) : p ∈ pairsL b n ↔ (b.1 - 1 ≤ p.1 ∧ p.1 ≤ b.2.2.1 + 1) ∧ (b.2.1 - 1 ≤ p.2 ∧ p.2 ≤ b.2.2.2 + 1) := by
 unfold pairsL
 simp only [List.mem_flatMap, List.mem_map, List.mem_range]
 constructor
 ·rintro ⟨i, hi, j, hj, rfl⟩
  simp only
  omega
 ·rintro ⟨h1, h2⟩
  refine ⟨(p.2 - (b.2.1 - 1)).toNat, by omega, (p.1 - (b.1 - 1)).toNat, by omega, ?_⟩
  obtain ⟨x, y⟩ := p
  simp only at h1 h2 ⊢
  rw [Prod.mk.injEq]
  omega
theorem pairs_len (b : B4) (n m : Nat) (hn : n ≤ m) (hm : (b.2.2.1 - b.1 + 3).toNat ≤ m) : (pairsL b n).length ≤ m * m := by
 have key : ∀ n, (pairsL b n).length ≤ n * m := by
  intro n
  induction n with
  | zero => simp [pairsL]
  | succ n ih =>
   unfold pairsL at *
   rw [List.range_succ, List.flatMap_append, List.length_append, Nat.succ_mul]
   simp only [List.flatMap_cons, List.flatMap_nil, List.append_nil, List.length_map, List.length_range]
   omega
 exact Nat.le_trans (key n) (Nat.mul_le_mul_right m hn)
theorem pairs_nodup (b : B4) (n : Nat) : (pairsL b n).Nodup := by
 unfold pairsL
 refine List.pairwise_flatMap.2 ⟨fun i _ => List.pairwise_map.2 (List.nodup_range.imp fun {x y} hxy e => hxy ?_), List.nodup_range.imp fun {x y} hxy p hp q hq e => hxy ?_⟩
 ·have := congrArg Prod.fst e
  simp only at this
  omega
 ·obtain ⟨u, _, rfl⟩ := List.mem_map.1 hp
  obtain ⟨v, _, rfl⟩ := List.mem_map.1 hq
  have := congrArg Prod.snd e
  simp only at this
  omega
theorem len_sub {α : Type} [DecidableEq α] : ∀ (a M : List α), a.Nodup → (∀ x ∈ a, x ∈ M) → a.length ≤ M.length
 | [], _, _, _ => Nat.zero_le _
 | x :: a, M, h, hs => by
  obtain ⟨h1, h2⟩ := List.nodup_cons.1 h
  have hx := hs x List.mem_cons_self
  have := len_sub a (M.erase x) h2 (fun y hy => (List.mem_erase_of_ne (fun e => h1 (by rw [← e]; exact hy))).2 (hs y (List.mem_cons_of_mem _ hy)))
  rw [List.length_erase_of_mem hx] at this
  have := List.length_pos_of_mem hx
  rw [List.length_cons]
  omega
theorem mem_ins (PP : List (Int × Int)) (q p : Int × Int) : p ∈ insP PP q ↔ p ∈ PP ∨ p = q := by
 unfold insP
 split
 ·next h => exact ⟨.inl, fun e => e.elim id fun e => e ▸ h⟩
 ·simp
theorem mem_col (a b : Int) (PP : List (Int × Int)) (p : Int × Int) : ∀ j : Nat, p ∈ colF a b j PP ↔ p ∈ PP ∨ (p.1 = a ∧ b ≤ p.2 ∧ p.2 < b + j)
 | 0 => by rw [colF]; exact ⟨.inl, fun e => e.elim id fun e => by omega⟩
 | j + 1 => by
  rw [colF_succ, mem_ins, mem_col a b PP p j]
  obtain ⟨x, y⟩ := p
  rw [Prod.mk.injEq]
  simp only
  constructor
  ·rintro ((h | h) | h)
   ·exact .inl h
   ·exact .inr (by omega)
   ·exact .inr (by omega)
  ·rintro (h | h)
   ·exact .inl (.inl h)
   ·by_cases e : y = b + (j : Int)
    ·exact .inr ⟨h.1, e⟩
    ·exact .inl (.inr (by omega))
theorem mem_cols (a b : Int) (PP : List (Int × Int)) (p : Int × Int) : ∀ i : Nat, p ∈ colsF a b i PP ↔ p ∈ PP ∨ ((a ≤ p.1 ∧ p.1 < a + i) ∧ b ≤ p.2 ∧ p.2 < b + 3)
 | 0 => by rw [colsF]; exact ⟨.inl, fun e => e.elim id fun e => by omega⟩
 | i + 1 => by
  rw [colsF_succ, mem_col, mem_cols a b PP p i]
  constructor
  ·rintro ((h | h) | h)
   ·exact .inl h
   ·exact .inr (by omega)
   ·exact .inr (by omega)
  ·rintro (h | h)
   ·exact .inl (.inl h)
   ·by_cases e : p.1 = a + (i : Int)
    ·exact .inr (by omega)
    ·exact .inl (.inr (by omega))
theorem mem_foldF (p : Int × Int) : ∀ (l : List RC) (PP : List (Int × Int)), p ∈ l.foldl cellF PP ↔ p ∈ PP ∨ ∃ c ∈ l, (c.f0 - 1 ≤ p.1 ∧ p.1 ≤ c.f0 + 1) ∧ c.f1 - 1 ≤ p.2 ∧ p.2 ≤ c.f1 + 1
 | [], PP => by simp
 | c :: l, PP => by
  rw [List.foldl_cons, mem_foldF p l, cellF_is, mem_cols]
  constructor
  ·rintro ((h | h) | ⟨d, hd, h⟩)
   ·exact .inl h
   ·exact .inr ⟨c, List.mem_cons_self, by omega⟩
   ·exact .inr ⟨d, List.mem_cons_of_mem _ hd, h⟩
  ·rintro (h | ⟨d, hd, h⟩)
   ·exact .inl (.inl h)
   ·rcases List.mem_cons.1 hd with rfl | hd
    ·exact .inl (.inr (by omega))
    ·exact .inr ⟨d, hd, h⟩
theorem ngh_bd2 (L : Int) (s : List CL) (q : CL) : 0 ≤ ngh L s q ∧ ngh L s q ≤ 63 := by
 unfold ngh
 by_cases h1 : L = 1
 ·rw [if_pos h1]; exact hexN_bd s q
 ·rw [if_neg h1]
  have h2 := List.length_filter_le (fun d => decide (d ∈ s)) (besL L q)
  have h3 : (besL L q).length ≤ 12 := by unfold besL; rw [List.length_map]; exact offs_le0 _ _
  omega
section
variable {L : Int} {b0 b1 s0 s1 : Nat} (hT : Tb L b0 b1 s0 s1) (s : List CL) (hs : Srt s) (hbx : Bx L 1000 s) (hn : s.length ≤ 1000)
include hT hs hbx hn
theorem avR_f (a b h : Int) (hp : (-1000 ≤ a ∧ a ≤ 1000) ∧ (-1000 ≤ b ∧ b ≤ 1000)) (hh : h = 0 ∨ (h = 1 ∧ L > 1)) :
    avR L [(b0 : Int), (b1 : Int)] [(s0 : Int), (s1 : Int)] (s.map told) a b h = some (aliveB (nxtV b0 b1 s0 s1) L s (mk a b h)) := by
 obtain ⟨hL, _, _, _, r0, r1, r2, r3, _⟩ := hT
 have hKR : KR = 20000 := rfl
 have hok : hOK L h := by
  rcases hh with rfl | ⟨rfl, h1⟩
  ·exact ⟨.inl rfl, fun _ => rfl⟩
  ·exact ⟨.inr rfl, fun e => by omega⟩
 have hhas := hasR_f KR s (mk a b h) hn (by omega)
 have hnb := nbh_f L hL (mk a b h) hok s (srt_nodup hs) (fun d hd => hbx d hd) hp.1 hp.2 hn KR (by omega)
 have hnbd := ngh_bd2 L s (mk a b h)
 have hnx := rnext_f KR L b0 b1 s0 s1 h (decide (mk a b h ∈ s)) (ngh L s (mk a b h)) r0 r1 r2 r3 hok.1 hnbd.1 hnbd.2 (by omega)
 unfold avR
 simp only [mk] at hhas hnb
 rw [hhas, Option.bind_some, hnb, Option.bind_some]
 exact hnx
theorem cellsR_f (p : Int × Int) (hp : (-1000 ≤ p.1 ∧ p.1 ≤ 1000) ∧ (-1000 ≤ p.2 ∧ p.2 ≤ 1000)) :
    cellsR L (fun a b h => (avR L [(b0 : Int), (b1 : Int)] [(s0 : Int), (s1 : Int)] (s.map told) a b h).getD false) p = (cellsP (nxtV b0 b1 s0 s1) L s p).map told := by
 have hf : ∀ h, (h = 0 ∨ (h = 1 ∧ L > 1)) → halfR (fun a b h => (avR L [(b0 : Int), (b1 : Int)] [(s0 : Int), (s1 : Int)] (s.map told) a b h).getD false) p h = (halfP (nxtV b0 b1 s0 s1) L s p h).map told := by
  intro h hh
  unfold halfR halfP
  simp only [avR_f hT s hs hbx hn p.1 p.2 h hp hh, Option.getD_some]
  split <;> rfl
 unfold cellsR cellsP
 rw [hf 0 (.inl rfl), List.map_append]
 by_cases h1 : L > 1
 ·rw [if_pos h1, if_pos h1, hf 1 (.inr ⟨rfl, h1⟩)]
 ·rw [if_neg h1, if_neg h1]; rfl
end
theorem box_fold (l : List RC) : ∀ b : B4, ((l.foldl boxStep b).1 ≤ b.1 ∧ (l.foldl boxStep b).2.1 ≤ b.2.1 ∧ b.2.2.1 ≤ (l.foldl boxStep b).2.2.1 ∧ b.2.2.2 ≤ (l.foldl boxStep b).2.2.2) ∧ ∀ c ∈ l, ((l.foldl boxStep b).1 ≤ c.f0 ∧ c.f0 ≤ (l.foldl boxStep b).2.2.1) ∧ ((l.foldl boxStep b).2.1 ≤ c.f1 ∧ c.f1 ≤ (l.foldl boxStep b).2.2.2) := by
 induction l with
 | nil => intro b; exact ⟨⟨Int.le_refl _, Int.le_refl _, Int.le_refl _, Int.le_refl _⟩, fun c hc => by cases hc⟩
 | cons x l ih =>
  intro b
  rw [List.foldl_cons]
  obtain ⟨⟨h1, h2, h3, h4⟩, h5⟩ := ih (boxStep b x)
  have e1 : (boxStep b x).1 = min b.1 x.f0 := rfl
  have e2 : (boxStep b x).2.1 = min b.2.1 x.f1 := rfl
  have e3 : (boxStep b x).2.2.1 = max b.2.2.1 x.f0 := rfl
  have e4 : (boxStep b x).2.2.2 = max b.2.2.2 x.f1 := rfl
  refine ⟨⟨by omega, by omega, by omega, by omega⟩, fun c hc => ?_⟩
  rcases List.mem_cons.1 hc with rfl | hc
  ·exact ⟨⟨by omega, by omega⟩, ⟨by omega, by omega⟩⟩
  ·exact h5 c hc
theorem box_in (R : Int) (l : List RC) (hl : ∀ c ∈ l, (-R ≤ c.f0 ∧ c.f0 ≤ R) ∧ (-R ≤ c.f1 ∧ c.f1 ≤ R)) : ∀ b : B4, (-R ≤ b.1 ∧ -R ≤ b.2.1 ∧ b.2.2.1 ≤ R ∧ b.2.2.2 ≤ R) → (-R ≤ (l.foldl boxStep b).1 ∧ -R ≤ (l.foldl boxStep b).2.1 ∧ (l.foldl boxStep b).2.2.1 ≤ R ∧ (l.foldl boxStep b).2.2.2 ≤ R) := by
 induction l with
 | nil => exact fun b h => h
 | cons x l ih =>
  intro b h
  rw [List.foldl_cons]
  have hx := hl x List.mem_cons_self
  refine ih (fun c hc => hl c (List.mem_cons_of_mem _ hc)) _ ?_
  have e1 : (boxStep b x).1 = min b.1 x.f0 := rfl
  have e2 : (boxStep b x).2.1 = min b.2.1 x.f1 := rfl
  have e3 : (boxStep b x).2.2.1 = max b.2.2.1 x.f0 := rfl
  have e4 : (boxStep b x).2.2.2 = max b.2.2.2 x.f1 := rfl
  refine ⟨by omega, by omega, by omega, by omega⟩
theorem rstep_core {L : Int} {b0 b1 s0 s1 : Nat} (hT : Tb L b0 b1 s0 s1) (s : List CL) (hs : Srt s) (hbx' : Bx L 1000 s) (hn : s.length ≤ 1000) (hpos : 0 < s.length) (PP : List (Int × Int)) (hpl0 : 0 < PP.length) (hlen : PP.length ≤ 5000)
    (hpl : XPlaces.f (s.map told) = some (PP.map rowI)) (hin : ∀ p ∈ PP, (-1000 ≤ p.1 ∧ p.1 ≤ 1000) ∧ (-1000 ≤ p.2 ∧ p.2 ≤ 1000))
    (hcov : ∀ c ∈ s, ∀ x y : Int, c.f0.f0 - 1 ≤ x → x ≤ c.f0.f0 + 1 → c.f0.f1 - 1 ≤ y → y ≤ c.f0.f1 + 1 → (x, y) ∈ PP)
    (hfew : (PP.flatMap (cellsP (nxtV b0 b1 s0 s1) L s)).length ≤ 1000) :
    XRStep.f L [(b0 : Int), (b1 : Int)] [(s0 : Int), (s1 : Int)] (s.map told) = some ((nextL (nxtV b0 b1 s0 s1) L s).map told) ∧ (nextL (nxtV b0 b1 s0 s1) L s).length ≤ (PP.flatMap (cellsP (nxtV b0 b1 s0 s1) L s)).length := by
 have h0 := rule_zero hT
 have heq : ofL (PP.flatMap (cellsP (nxtV b0 b1 s0 s1) L s)) = nextL (nxtV b0 b1 s0 s1) L s := by
  refine srt_ext (ofL_srt _) (next_srt _ _ _) (fun x => ?_)
  rw [ofL_mem, List.mem_flatMap, next_mem _ L hT.1 h0 s (srt_nodup hs) hbx'.half]
  constructor
  ·rintro ⟨p, _, hx⟩
   obtain ⟨_, h1, h2⟩ := (cellsP_mem _ L hT.1 s p x).1 hx
   exact ⟨h1, h2⟩
  ·intro hx
   obtain ⟨c, hc, n1, n2, n3, n4⟩ := next_near _ L hT.1 h0 s (srt_nodup hs) hbx'.half x ((next_mem _ L hT.1 h0 s (srt_nodup hs) hbx'.half x).2 hx)
   exact ⟨(x.f0.f0, x.f0.f1), hcov c hc _ _ n1 n2 n3 n4, (cellsP_mem _ L hT.1 s _ x).2 ⟨⟨rfl, rfl⟩, hx.1, hx.2⟩⟩
 have hpp : (PP.map rowI).map pairI = PP := by
  rw [List.map_map]
  conv => rhs; rw [← List.map_id PP]
  rfl
 have hfl : ∀ PP : List (Int × Int), (∀ p ∈ PP, (-1000 ≤ p.1 ∧ p.1 ≤ 1000) ∧ (-1000 ≤ p.2 ∧ p.2 ≤ 1000)) → PP.flatMap (cellsR L fun a b h => (avR L [(b0 : Int), (b1 : Int)] [(s0 : Int), (s1 : Int)] (s.map told) a b h).getD false) = (PP.flatMap (cellsP (nxtV b0 b1 s0 s1) L s)).map told := by
  intro PP
  induction PP with
  | nil => intro _; rfl
  | cons p PP ih =>
   intro hP
   rw [List.flatMap_cons, List.flatMap_cons, List.map_append, ih (fun q hq => hP q (List.mem_cons_of_mem _ hq)), cellsR_f hT s hs hbx' hn p (hP p List.mem_cons_self)]
 constructor
 ·unfold XRStep.f
  rw [if_neg (by rw [List.length_map]; omega), if_pos (by rw [List.length_map]; omega), hpl, Option.bind_some, hpp]
  have hall : (PP.all fun p => (avR L [(b0 : Int), (b1 : Int)] [(s0 : Int), (s1 : Int)] (s.map told) p.1 p.2 0).isSome && (decide (L ≤ 1) || (avR L [(b0 : Int), (b1 : Int)] [(s0 : Int), (s1 : Int)] (s.map told) p.1 p.2 1).isSome)) = true := by
   refine List.all_eq_true.2 fun p hp => ?_
   rw [avR_f hT s hs hbx' hn p.1 p.2 0 (hin p hp) (.inl rfl), Bool.and_eq_true]
   refine ⟨rfl, ?_⟩
   by_cases h1 : L > 1
   ·rw [avR_f hT s hs hbx' hn p.1 p.2 1 (hin p hp) (.inr ⟨rfl, h1⟩)]
    simp
   ·rw [decide_eq_true (by omega)]
    rfl
  rw [if_pos ⟨rfl, by rw [List.length_map]; exact hpl0, by rw [List.length_map]; exact hlen, hall⟩, hfl _ hin, ofR_f KR _ hfew (by have : KR = 20000 := rfl; omega), heq]
 ·rw [← heq]
  exact ofL_le _
theorem next_nil {L : Int} {b0 b1 s0 s1 : Nat} (hT : Tb L b0 b1 s0 s1) : nextL (nxtV b0 b1 s0 s1) L [] = [] := by
 apply List.eq_nil_iff_forall_not_mem.2
 intro x hx
 obtain ⟨c, hc, _⟩ := next_near _ L hT.1 (rule_zero hT) [] List.nodup_nil (fun c hc => by cases hc) x hx
 cases hc
theorem box_facts (s : List CL) (hpos : 0 < s.length) (L R : Int) (hbx : Bx L R s) : ∃ b, b = boxOf (s.map told) ∧ (∀ c ∈ s, (b.1 ≤ c.f0.f0 ∧ c.f0.f0 ≤ b.2.2.1) ∧ (b.2.1 ≤ c.f0.f1 ∧ c.f0.f1 ≤ b.2.2.2)) ∧ (-R ≤ b.1 ∧ -R ≤ b.2.1 ∧ b.2.2.1 ≤ R ∧ b.2.2.2 ≤ R) ∧ b.1 ≤ b.2.2.1 ∧ b.2.1 ≤ b.2.2.2 := by
 have hmem : ∀ c ∈ s.map told, (-R ≤ c.f0 ∧ c.f0 ≤ R) ∧ (-R ≤ c.f1 ∧ c.f1 ≤ R) := by
  intro c hc
  obtain ⟨d, hd, rfl⟩ := List.mem_map.1 hc
  exact (hbx d hd).2
 have hz : rd_T60 (s.map told) 0 ∈ s.map told := by
  have := rdT s 0 hpos
  rw [show ((0 : Nat) : Int) = 0 from rfl] at this
  rw [this]
  exact List.mem_map.2 ⟨_, List.getElem_mem hpos, rfl⟩
 obtain ⟨z, hzz⟩ : ∃ z, z = rd_T60 (s.map told) 0 := ⟨_, rfl⟩
 rw [← hzz] at hz
 have hzb := hmem z hz
 have hbx0 : boxOf (s.map told) = (s.map told).foldl boxStep (z.f0, z.f1, z.f0, z.f1) := by unfold boxOf; rw [hzz]
 obtain ⟨_, hb2⟩ := box_fold (s.map told) (z.f0, z.f1, z.f0, z.f1)
 have hb3 := box_in R (s.map told) hmem (z.f0, z.f1, z.f0, z.f1) ⟨hzb.1.1, hzb.2.1, hzb.1.2, hzb.2.2⟩
 rw [← hbx0] at hb2 hb3
 obtain ⟨b, hb⟩ : ∃ b, b = boxOf (s.map told) := ⟨_, rfl⟩
 rw [← hb] at hb2 hb3
 have hbz := hb2 z hz
 exact ⟨b, hb, fun c hc => hb2 (told c) (List.mem_map.2 ⟨c, hc, rfl⟩), hb3, by omega, by omega⟩
theorem key_len (nx : Rul) (L : Int) (s : List CL) : ∀ PP : List (Int × Int), (PP.flatMap (cellsP nx L s)).length ≤ 2 * PP.length := by
 intro PP
 induction PP with
 | nil => simp
 | cons p PP ih =>
  have := cellsP_len nx L s p
  rw [List.flatMap_cons, List.length_append, List.length_cons]
  omega
theorem near_cov (b : B4) (s : List CL) (n : Nat) (hnn : (n : Int) = b.2.2.2 - b.2.1 + 3) (hb2 : ∀ c ∈ s, (b.1 ≤ c.f0.f0 ∧ c.f0.f0 ≤ b.2.2.1) ∧ (b.2.1 ≤ c.f0.f1 ∧ c.f0.f1 ≤ b.2.2.2)) : ∀ c ∈ s, ∀ x y : Int, c.f0.f0 - 1 ≤ x → x ≤ c.f0.f0 + 1 → c.f0.f1 - 1 ≤ y → y ≤ c.f0.f1 + 1 → (x, y) ∈ pairsL b n := by
 intro c hc x y h1 h2 h3 h4
 have := hb2 c hc
 refine (mem_pairs b n hnn _).2 ⟨⟨?_, ?_⟩, ⟨?_, ?_⟩⟩ <;> simp only <;> omega
theorem near_pl (s : List CL) (b : B4) (hb : b = boxOf (s.map told)) (n : Nat) (hnn : (n : Int) = b.2.2.2 - b.2.1 + 3) (hpos : 0 < s.length) (hn : s.length ≤ 1000) (hnear : b.2.2.1 - b.1 < 60 ∧ b.2.2.2 - b.2.1 < 60) (h1 : b.1 ≤ b.2.2.1) (h2 : b.2.1 ≤ b.2.2.2) (h3 : -1000 ≤ b.1 ∧ -1000 ≤ b.2.1 ∧ b.2.2.1 ≤ 1000 ∧ b.2.2.2 ≤ 1000) :
    XPlaces.f (s.map told) = some ((pairsL b n).map rowI) := by
 unfold XPlaces.f
 rw [← hb, if_pos ⟨by rw [List.length_map]; omega, by rw [List.length_map]; omega, .inl hnear, h1, h2, by omega, by omega, by omega, by omega⟩, if_pos hnear, ← places_pairs, show (b.2.2.2 - b.2.1 + 3).toNat = n by omega]
def nineP (c : CL) : List CL := ([-1, 0, 1] : List Int).flatMap fun i => ([-1, 0, 1] : List Int).flatMap fun j => [mk (c.f0.f0 + i) (c.f0.f1 + j) 0, mk (c.f0.f0 + i) (c.f0.f1 + j) 1]
theorem nine_len (s : List CL) : (s.flatMap nineP).length = 18 * s.length := by
 induction s with
 | nil => rfl
 | cons c s ih =>
  rw [List.flatMap_cons, List.length_append, ih, List.length_cons]
  have : (nineP c).length = 18 := rfl
  omega
theorem nine_mem (c x : CL) (h1 : c.f0.f0 - 1 ≤ x.f0.f0) (h2 : x.f0.f0 ≤ c.f0.f0 + 1) (h3 : c.f0.f1 - 1 ≤ x.f0.f1) (h4 : x.f0.f1 ≤ c.f0.f1 + 1) (h5 : x.f1 = 0 ∨ x.f1 = 1) : x ∈ nineP c := by
 unfold nineP
 refine List.mem_flatMap.2 ⟨x.f0.f0 - c.f0.f0, three _ (by omega) (by omega), List.mem_flatMap.2 ⟨x.f0.f1 - c.f0.f1, three _ (by omega) (by omega), ?_⟩⟩
 rcases h5 with h5 | h5
 ·have : x = mk (c.f0.f0 + (x.f0.f0 - c.f0.f0)) (c.f0.f1 + (x.f0.f1 - c.f0.f1)) 0 := cl_of (by simp only [mk]; omega) (by simp only [mk]; omega) h5
  rw [← this]
  exact List.mem_cons_self
 ·have : x = mk (c.f0.f0 + (x.f0.f0 - c.f0.f0)) (c.f0.f1 + (x.f0.f1 - c.f0.f1)) 1 := cl_of (by simp only [mk]; omega) (by simp only [mk]; omega) h5
  rw [← this]
  exact List.mem_cons_of_mem _ List.mem_cons_self
theorem next_few {L : Int} {b0 b1 s0 s1 : Nat} (hT : Tb L b0 b1 s0 s1) (s : List CL) (hs : Srt s) (hbx' : Bx L 1000 s) (PP : List (Int × Int)) (hnd : PP.Nodup) : (PP.flatMap (cellsP (nxtV b0 b1 s0 s1) L s)).length ≤ 18 * s.length := by
 have h0 := rule_zero hT
 rw [← nine_len s]
 refine len_sub _ _ (List.pairwise_flatMap.2 ⟨fun p _ => ?_, hnd.imp fun {p q} hpq x hx y hy e => hpq ?_⟩) fun x hx => ?_
 ·have hh : ∀ h, halfP (nxtV b0 b1 s0 s1) L s p h = [] ∨ halfP (nxtV b0 b1 s0 s1) L s p h = [mk p.1 p.2 h] := by
   intro h
   unfold halfP
   split
   ·exact .inr rfl
   ·exact .inl rfl
  unfold cellsP
  rcases hh 0 with e | e <;> rcases hh 1 with e' | e' <;> rw [e, e'] <;> split <;> simp [mk]
 ·obtain ⟨p, _, hx⟩ := List.mem_flatMap.1 hx
  obtain ⟨_, h1, h2⟩ := (cellsP_mem _ L hT.1 s p x).1 hx
  obtain ⟨c, hc, n1, n2, n3, n4⟩ := next_near _ L hT.1 h0 s (srt_nodup hs) hbx'.half x ((next_mem _ L hT.1 h0 s (srt_nodup hs) hbx'.half x).2 ⟨h1, h2⟩)
  exact List.mem_flatMap.2 ⟨c, hc, nine_mem c x n1 n2 n3 n4 h1.1⟩
 ·obtain ⟨⟨p1, p2⟩, _⟩ := (cellsP_mem _ L hT.1 s p x).1 hx
  obtain ⟨⟨q1, q2⟩, _⟩ := (cellsP_mem _ L hT.1 s q y).1 hy
  subst e
  exact Prod.ext (p1.symm.trans q1) (p2.symm.trans q2)
theorem rstep_far {L : Int} {b0 b1 s0 s1 : Nat} (hT : Tb L b0 b1 s0 s1) (s : List CL) (hs : Srt s) (R : Int) (hR : R ≤ 900) (hbx : Bx L R s) (hn : s.length ≤ 16) :
    XRStep.f L [(b0 : Int), (b1 : Int)] [(s0 : Int), (s1 : Int)] (s.map told) = some ((nextL (nxtV b0 b1 s0 s1) L s).map told) ∧ (nextL (nxtV b0 b1 s0 s1) L s).length ≤ 288 := by
 by_cases he : s = []
 ·subst he
  rw [next_nil hT]
  refine ⟨?_, by simp⟩
  unfold XRStep.f
  simp
 ·have hpos : 0 < s.length := List.length_pos_iff.2 he
  obtain ⟨b, hb, hb2, hb3, hb4, hb5⟩ := box_facts s hpos L R hbx
  have hbx' : Bx L 1000 s := hbx.mono (by omega)
  by_cases hnear : b.2.2.1 - b.1 < 60 ∧ b.2.2.2 - b.2.1 < 60
  ·obtain ⟨n, hnn⟩ : ∃ n : Nat, (n : Int) = b.2.2.2 - b.2.1 + 3 := ⟨(b.2.2.2 - b.2.1 + 3).toNat, by omega⟩
   have hpl := near_pl s b hb n hnn hpos (by omega) hnear hb4 hb5 (by omega)
   have hlen := pairs_len b n 62 (by omega) (by omega)
   have hin : ∀ p ∈ pairsL b n, (-1000 ≤ p.1 ∧ p.1 ≤ 1000) ∧ (-1000 ≤ p.2 ∧ p.2 ≤ 1000) := fun p hp => by have := (mem_pairs b n hnn p).1 hp; omega
   have hk1 := next_few hT s hs hbx' (pairsL b n) (pairs_nodup b n)
   have hpl0 : 0 < (pairsL b n).length := by
    have : (b.1, b.2.1) ∈ pairsL b n := (mem_pairs b n hnn _).2 ⟨⟨by simp only; omega, by simp only; omega⟩, ⟨by simp only; omega, by simp only; omega⟩⟩
    exact List.length_pos_of_mem this
   obtain ⟨r1, r2⟩ := rstep_core hT s hs hbx' (by omega) hpos (pairsL b n) hpl0 (by omega) hpl hin (near_cov b s n hnn hb2) (by omega)
   exact ⟨r1, by omega⟩
  ·obtain ⟨PP, hPP⟩ : ∃ PP, PP = (s.map told).foldl cellF [] := ⟨_, rfl⟩
   have hmem : ∀ p, p ∈ PP ↔ ∃ c ∈ s, (c.f0.f0 - 1 ≤ p.1 ∧ p.1 ≤ c.f0.f0 + 1) ∧ c.f0.f1 - 1 ≤ p.2 ∧ p.2 ≤ c.f0.f1 + 1 := by
    intro p
    rw [hPP, mem_foldF]
    constructor
    ·rintro (h | ⟨c, hc, h⟩)
     ·cases h
     ·obtain ⟨d, hd, rfl⟩ := List.mem_map.1 hc
      exact ⟨d, hd, h⟩
    ·rintro ⟨c, hc, h⟩
     exact .inr ⟨told c, List.mem_map.2 ⟨c, hc, rfl⟩, h⟩
   have hpl : XPlaces.f (s.map told) = some (PP.map rowI) := by
    have hal : ∀ c ∈ s.map told, (-1000000000 ≤ c.f0 ∧ c.f0 ≤ 1000000000) ∧ (-1000000000 ≤ c.f1 ∧ c.f1 ≤ 1000000000) := by
     intro c hc
     obtain ⟨d, hd, rfl⟩ := List.mem_map.1 hc
     have := (hbx d hd).2
     simp only [told]
     omega
    unfold XPlaces.f
    rw [← hb, if_pos ⟨by rw [List.length_map]; omega, by rw [List.length_map]; omega, .inr ⟨by rw [List.length_map]; omega, hal⟩, hb4, hb5, by omega, by omega, by omega, by omega⟩, if_neg hnear, ← hPP]
   have hlen := foldF_len (s.map told) []
   rw [← hPP, List.length_map] at hlen
   simp only [List.length_nil] at hlen
   have hin : ∀ p ∈ PP, (-1000 ≤ p.1 ∧ p.1 ≤ 1000) ∧ (-1000 ≤ p.2 ∧ p.2 ≤ 1000) := fun p hp => by
    obtain ⟨c, hc, h⟩ := (hmem p).1 hp
    have := (hbx c hc).2
    omega
   have hk1 := key_len (nxtV b0 b1 s0 s1) L s PP
   have hcov : ∀ c ∈ s, ∀ x y : Int, c.f0.f0 - 1 ≤ x → x ≤ c.f0.f0 + 1 → c.f0.f1 - 1 ≤ y → y ≤ c.f0.f1 + 1 → (x, y) ∈ PP := fun c hc x y h1 h2 h3 h4 => (hmem (x, y)).2 ⟨c, hc, ⟨h1, h2⟩, h3, h4⟩
   have hpl0 : 0 < PP.length := by
    have : ((s[0]).f0.f0, (s[0]).f0.f1) ∈ PP := hcov s[0] (List.getElem_mem hpos) _ _ (by omega) (by omega) (by omega) (by omega)
    exact List.length_pos_of_mem this
   obtain ⟨r1, r2⟩ := rstep_core hT s hs hbx' (by omega) hpos PP hpl0 (by omega) hpl hin hcov (by omega)
   exact ⟨r1, by omega⟩
end
theorem refGood_f (a b : Int) : honeycombref01_Good.f a b = some (decide (goodP a b)) := by
 unfold honeycombref01_Good.f
 by_cases hg : goodP a b
 ·rw [decide_eq_true hg]
  obtain ⟨h1, h2, h3, h4⟩ := hg
  rw [if_pos h2, if_pos h1, if_pos h4, decide_eq_true h3]
 ·rw [decide_eq_false hg]
  simp only [goodP] at hg
  by_cases h1 : a ≤ 1099511627776
  ·by_cases h2 : a ≥ -1099511627776
   ·by_cases h3 : b ≤ 1099511627776
    ·rw [if_pos h1, if_pos h2, if_pos h3, decide_eq_false (by omega)]
    ·rw [if_pos h1, if_pos h2, if_neg h3]
   ·rw [if_pos h1, if_neg h2]
  ·rw [if_neg h1]
theorem refCheck_f (k : Nat) (l a b h : Int) : honeycombref03_Check.f (k + 2) l a b h = some ((checkR l a b h).getD 0) := by
 unfold honeycombref03_Check.f checkR
 simp only [honeycombref03_Check.j0, honeycombref03_Check.j1, refGood_f]
 by_cases h1 : l < 1
 ·simp [h1, show ¬ 1 ≤ l by omega]
 ·by_cases h3 : l > 3
  ·simp [h1, h3, show ¬ l ≤ 3 by omega]
  ·have e1 : 1 ≤ l ∧ l ≤ 3 := by omega
   rw [if_neg h1, if_pos e1]
   simp only [h3, decide_false, Bool.false_eq_true, ↓reduceIte]
   by_cases h4 : h < 0
   ·simp [h4]
   ·by_cases h5 : h > 1
    ·rw [if_neg h4, if_pos h5, if_pos (by right; split <;> omega)]
     rfl
    ·rw [if_neg h4, if_neg h5]
     by_cases h6 : l = 1
     ·rw [if_pos h6, if_pos h6]
      by_cases h7 : h > 0
      ·rw [decide_eq_true h7, if_pos rfl, if_pos (by omega)]
       rfl
      ·rw [decide_eq_false h7, if_neg (by decide), if_neg (by omega)]
       by_cases hg : goodP a b <;> simp [hg]
     ·rw [if_neg h6, if_neg h6, if_neg (by omega)]
      by_cases hg : goodP a b <;> simp [hg]
open Go.Shelf Go.Lib Go.Sort
theorem w64 (x : Int) (h1 : -9223372036854775808 ≤ x) (h2 : x ≤ 9223372036854775807) : wrap64 x = x := by unfold wrap64; omega
def rot0 (o a b : Int) : Int × Int := if o < 6 then (a, b) else (b, a)
def rotN (o a b : Int) : Nat → Int × Int
 | 0 => rot0 o a b
 | k + 1 => turnP (rotN o a b k)
theorem ref01On_f (o a b : Int) (ho : 0 ≤ o) (ho' : o < 12) (ha : -2000000000000 ≤ a) (ha' : a ≤ 2000000000000) (hb : -2000000000000 ≤ b) (hb' : b ≤ 2000000000000) :
    honeycombref01_On.f 10 o a b = some (rotN o a b (o % 6).toNat) := by
 have : o = 0 ∨ o = 1 ∨ o = 2 ∨ o = 3 ∨ o = 4 ∨ o = 5 ∨ o = 6 ∨ o = 7 ∨ o = 8 ∨ o = 9 ∨ o = 10 ∨ o = 11 := by omega
 rcases this with rfl | rfl | rfl | rfl | rfl | rfl | rfl | rfl | rfl | rfl | rfl | rfl <;>
  simp (disch := omega) [honeycombref01_On.f, honeycombref01_On.j0, honeycombref01_On.l0, w64, rotN, rot0, turnP]
def rotO (o a b : Int) : Int × Int := rotN o a b (o % 6).toNat
theorem ref01On_any (o a b : Int) (w : World) (ho : 0 ≤ o) (ho' : o < 12) (ha : -2000000000000 ≤ a) (ha' : a ≤ 2000000000000) (hb : -2000000000000 ≤ b) (hb' : b ≤ 2000000000000) :
    Calls Tryd.prog 85 #[.int .i64 o, .int .i64 a, .int .i64 b] w fun e w' => e = .returned (.tuple #[.int .i64 (rotO o a b).1, .int .i64 (rotO o a b).2]) ∧ ∃ n, w' = w.drewN n :=
 (honeycombref01_On.calls 10 o a b _ _ w (ref01On_f o a b ho ho' ha ha' hb hb')).mono fun _ _ ⟨he, hd⟩ => ⟨he, hd.out⟩
theorem rotO_bd (o a b : Int) (ho : 0 ≤ o) (ho' : o < 12) (ha : -2000000000000 ≤ a) (ha' : a ≤ 2000000000000) (hb : -2000000000000 ≤ b) (hb' : b ≤ 2000000000000) : (-4000000000000 ≤ (rotO o a b).1 ∧ (rotO o a b).1 ≤ 4000000000000) ∧ (-4000000000000 ≤ (rotO o a b).2 ∧ (rotO o a b).2 ≤ 4000000000000) := by
 unfold rotO
 have : o = 0 ∨ o = 1 ∨ o = 2 ∨ o = 3 ∨ o = 4 ∨ o = 5 ∨ o = 6 ∨ o = 7 ∨ o = 8 ∨ o = 9 ∨ o = 10 ∨ o = 11 := by omega
 rcases this with rfl | rfl | rfl | rfl | rfl | rfl | rfl | rfl | rfl | rfl | rfl | rfl <;> (simp [rotN, rot0, turnP]; omega)
def lowK (q : Nat → Int × Int) : Nat → Int × Int × Int
 | 0 => (1152921504606846976, 1152921504606846976, 0)
 | k + 1 => (min (lowK q k).1 (q k).1, min (lowK q k).2.1 (q k).2, (lowK q k).2.2 + ((q k).1 + (q k).2))
def cornA (a b h : Int) (k : Nat) : Int × Int := if h = 0 then (if k = 0 then (a, b) else if k = 1 then (a + 1, b) else (a, b + 1)) else (if k = 0 then (a + 1, b) else if k = 1 then (a, b + 1) else (a + 1, b + 1))
def rcorn (o a b h : Int) (k : Nat) : Int × Int := rotO o (cornA a b h k).1 (cornA a b h k).2
def refOnT (o a b h : Int) : Int × Int × Int := ((lowK (rcorn o a b h) 3).1, (lowK (rcorn o a b h) 3).2.1, if (lowK (rcorn o a b h) 3).2.2 - 3 * ((lowK (rcorn o a b h) 3).1 + (lowK (rcorn o a b h) 3).2.1) > 2 then 1 else 0)
theorem refOn_eq (o a b h : Int) (ho : 0 ≤ o) (ho' : o < 12) (hg : goodP a b) (hh : h = 0 ∨ h = 1) : refOnT o a b h = ((onT o a b h).f0.f0, (onT o a b h).f0.f1, (onT o a b h).f1) := by
 obtain ⟨g1, g2, g3, g4⟩ := hg
 have : o = 0 ∨ o = 1 ∨ o = 2 ∨ o = 3 ∨ o = 4 ∨ o = 5 ∨ o = 6 ∨ o = 7 ∨ o = 8 ∨ o = 9 ∨ o = 10 ∨ o = 11 := by omega
 rcases this with rfl | rfl | rfl | rfl | rfl | rfl | rfl | rfl | rfl | rfl | rfl | rfl <;> rcases hh with rfl | rfl <;>
  (simp [refOnT, lowK, rcorn, rotO, rotN, rot0, turnP, cornA, onT, thrN, thr0]; omega)
end Go.Proofs.YtaeenefdbahfoaaDoor
