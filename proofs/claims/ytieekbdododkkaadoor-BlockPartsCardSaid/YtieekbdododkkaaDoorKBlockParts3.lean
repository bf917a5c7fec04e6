/- Parts of the proof of BlockParts, merged out of our texts by wip/tools/pack.py. -/
import Derived.Test.YtieekbdododkkaaDoorKBlockParts2
import Derived.Test.YtieekbdododkkaaDoorKBlockParts0
import Derived.BigRegion
import Derived.Deep.RegionLaw
namespace Go.Proofs.YtieekbdododkkaaDoor
set_option linter.unusedSimpArgs false
set_option linter.unusedVariables false
set_option maxRecDepth 100000
set_option maxHeartbeats 16000000
open Go.RowKit Go.Proofs.YtieekbdododkkaaDoorW.PrintWords Go.Proofs.YtieekbdododkkaaDoorW.PrintLast Go.Proofs.YtieekbdododkkaaDoorW.PrintMore
open H
/-- does a cell live in the next generation? -/
def nxK (b0 b1 s0 s1 half : Int) (live : Bool) (n : Int) : Bool := if half < 0 ∨ 1 < half ∨ n < 0 ∨ 63 < n then false else nxB (if live = true then (if half = 0 then s0 else s1) else (if half = 0 then b0 else b1)) n
/-- a row's number of the bits that are there -/
def rowS (q : Nat → Bool) : Nat → Int
  | 0 => 0
  | n + 1 => rowS q n + if q n = true then 2 ^ n else 0
/-- the bits of the next generation -/
def bitQ (l b0 b1 s0 s1 : Int) (g : Nat → Int) (b i : Nat) : Bool :=
  if ((i % 2 : Nat) : Int) < halvesR l then nxK b0 b1 s0 s1 ((i % 2 : Nat) : Int) (decide (stB g ((i / 2 : Nat) : Int) (b : Int) / 2 ^ (i % 2) % 2 = 1)) (sumP g ((i / 2 : Nat) : Int) (b : Int) (nearK l ((i % 2 : Nat) : Int))) else false
def stepG (l b0 b1 s0 s1 : Int) (g : Nat → Int) (k : Nat) : Int := rowS (bitQ l b0 b1 s0 s1 g k) 16
def outU (q : Nat → Nat → Bool) (b n k : Nat) : Int := rowS (q k) (if k < b then 16 else if k = b then n else 0)
theorem rowS_bd (q : Nat → Bool) (n : Nat) : 0 ≤ rowS q n ∧ rowS q n < 2 ^ n := by
  induction n with
  | zero => simp [rowS]
  | succ n ih =>
    unfold rowS
    have : (2 : Int) ^ (n + 1) = 2 ^ n * 2 := by rw [Int.pow_succ]
    have hp : (0 : Int) < 2 ^ n := Int.pow_pos (by decide)
    split <;> omega
theorem outU_row (q : Nat → Nat → Bool) (b : Nat) : outU q b 16 = outU q (b + 1) 0 := by
  funext k
  unfold outU
  congr 1
  by_cases h : k < b
  · rw [if_pos h, if_pos (by omega)]
  · by_cases h2 : k = b
    · rw [if_neg h, if_pos h2, if_pos (by omega)]
    · rw [if_neg h, if_neg h2, if_neg (by omega)]
      split <;> rfl
theorem outU_skip (q : Nat → Nat → Bool) (b n : Nat) (h : q b n = false) : outU q b n = outU q b (n + 1) := by
  funext k
  unfold outU
  by_cases h1 : k < b
  · rw [if_pos h1, if_pos h1]
  · rw [if_neg h1, if_neg h1]
    by_cases h2 : k = b
    · subst h2
      rw [if_pos rfl, if_pos rfl]
      simp [rowS, h]
    · rw [if_neg h2, if_neg h2]
theorem outU_put (q : Nat → Nat → Bool) (b n : Nat) (h : q b n = true) : (fun k => if k = b then outU q b n b + 2 ^ n else outU q b n k) = outU q b (n + 1) := by
  funext k
  unfold outU
  by_cases h2 : k = b
  · subst h2
    rw [if_pos rfl, if_neg (Nat.lt_irrefl k), if_neg (Nat.lt_irrefl k), if_pos rfl, if_pos rfl]
    simp [rowS, h]
  · rw [if_neg h2]
    simp only [h2, ↓reduceIte]
theorem outU_at (q : Nat → Nat → Bool) (b n : Nat) : outU q b n b = rowS (q b) n := by
  unfold outU
  rw [if_neg (Nat.lt_irrefl b), if_pos rfl]
theorem arr8_get (f : Nat → Int) (b : Nat) (hb : b < 8) : (#[.int .u16 (f 0), .int .u16 (f 1), .int .u16 (f 2), .int .u16 (f 3), .int .u16 (f 4), .int .u16 (f 5), .int .u16 (f 6), .int .u16 (f 7)] : Array Value)[b]? = some (.int .u16 (f b)) := by
  have : b = 0 ∨ b = 1 ∨ b = 2 ∨ b = 3 ∨ b = 4 ∨ b = 5 ∨ b = 6 ∨ b = 7 := by omega
  rcases this with rfl | rfl | rfl | rfl | rfl | rfl | rfl | rfl <;> rfl
theorem arr8_set (f : Nat → Int) (b : Nat) (hb : b < 8) (v : Int) : (#[.int .u16 (f 0), .int .u16 (f 1), .int .u16 (f 2), .int .u16 (f 3), .int .u16 (f 4), .int .u16 (f 5), .int .u16 (f 6), .int .u16 (f 7)] : Array Value).setIfInBounds b (.int .u16 v) = #[.int .u16 ((fun k => if k = b then v else f k) 0), .int .u16 ((fun k => if k = b then v else f k) 1), .int .u16 ((fun k => if k = b then v else f k) 2), .int .u16 ((fun k => if k = b then v else f k) 3), .int .u16 ((fun k => if k = b then v else f k) 4), .int .u16 ((fun k => if k = b then v else f k) 5), .int .u16 ((fun k => if k = b then v else f k) 6), .int .u16 ((fun k => if k = b then v else f k) 7)] := by
  have : b = 0 ∨ b = 1 ∨ b = 2 ∨ b = 3 ∨ b = 4 ∨ b = 5 ∨ b = 6 ∨ b = 7 := by omega
  rcases this with rfl | rfl | rfl | rfl | rfl | rfl | rfl | rfl <;> rfl
theorem or_new (x : Int) (n : Nat) (hn : n < 16) (h0 : 0 ≤ x) (h1 : x < 2 ^ n) : Go.bits .or .u16 x (IntKind.u16.wrap (2 ^ n)) = x + 2 ^ n := by
  have hm : (2 : Int) ^ n ≤ 32768 := by
    have : n = 0 ∨ n = 1 ∨ n = 2 ∨ n = 3 ∨ n = 4 ∨ n = 5 ∨ n = 6 ∨ n = 7 ∨ n = 8 ∨ n = 9 ∨ n = 10 ∨ n = 11 ∨ n = 12 ∨ n = 13 ∨ n = 14 ∨ n = 15 := by omega
    rcases this with rfl | rfl | rfl | rfl | rfl | rfl | rfl | rfl | rfl | rfl | rfl | rfl | rfl | rfl | rfl | rfl <;> decide
  have hp : (0 : Int) < 2 ^ n := Int.pow_pos (by decide)
  obtain ⟨a, rfl⟩ := Int.eq_ofNat_of_zero_le h0
  have e : (2 : Int) ^ n = ((2 ^ n : Nat) : Int) := by push_cast; rfl
  have hx2 : a < 2 ^ n := by rw [e] at h1; omega
  rw [Go.IntKind.wrap_u16, show (2 : Int) ^ n % 65536 = 2 ^ n by omega, e, Go.u16_or_nat a (2 ^ n) (by omega) (by omega), Nat.or_comm, Go.nat_join n _ _ (Nat.mod_self _) hx2]
  omega
abbrev S13 (gx gk : Nat) (g : Nat → Int) (l b0 b1 s0 s1 : Int) (W : World) : Prop := (W.cell? ⟨gx, 0, none⟩ = some (.int .u16 (g 0)) ∧ W.cell? ⟨gx, 1, none⟩ = some (.int .u16 (g 1)) ∧ W.cell? ⟨gx, 2, none⟩ = some (.int .u16 (g 2)) ∧ W.cell? ⟨gx, 3, none⟩ = some (.int .u16 (g 3)) ∧ W.cell? ⟨gx, 4, none⟩ = some (.int .u16 (g 4)) ∧ W.cell? ⟨gx, 5, none⟩ = some (.int .u16 (g 5)) ∧ W.cell? ⟨gx, 6, none⟩ = some (.int .u16 (g 6)) ∧ W.cell? ⟨gx, 7, none⟩ = some (.int .u16 (g 7))) ∧ W.cell? ⟨gk, 0, none⟩ = some (.int .i64 l) ∧ W.cell? ⟨gk, 1, none⟩ = some (.int .u64 b0) ∧ W.cell? ⟨gk, 2, none⟩ = some (.int .u64 b1) ∧ W.cell? ⟨gk, 3, none⟩ = some (.int .u64 s0) ∧ W.cell? ⟨gk, 4, none⟩ = some (.int .u64 s1)
theorem KerAt.cells {w : World} {gk : Nat} {l b0 b1 s0 s1 : Int} (h : KerAt w gk l b0 b1 s0 s1) : w.cell? ⟨gk, 0, none⟩ = some (.int .i64 l) ∧ w.cell? ⟨gk, 1, none⟩ = some (.int .u64 b0) ∧ w.cell? ⟨gk, 2, none⟩ = some (.int .u64 b1) ∧ w.cell? ⟨gk, 3, none⟩ = some (.int .u64 s0) ∧ w.cell? ⟨gk, 4, none⟩ = some (.int .u64 s1) := by
  obtain ⟨A0, c0, A1, c1, h1, _⟩ := h
  exact ⟨blk_cell h1 0, blk_cell h1 1, blk_cell h1 2, blk_cell h1 3, blk_cell h1 4⟩
theorem KerAt.lt {w : World} {gk : Nat} {l b0 b1 s0 s1 : Int} (h : KerAt w gk l b0 b1 s0 s1) : gk < w.heap.size := by
  obtain ⟨A0, c0, A1, c1, h1, _⟩ := h
  exact blk_lt h1
theorem S13.of {W : World} {gx gk : Nat} {g : Nat → Int} {l b0 b1 s0 s1 : Int} (h1 : W.heap[gx]? = some (blkO g 52)) (h2 : KerAt W gk l b0 b1 s0 s1) : S13 gx gk g l b0 b1 s0 s1 W :=
  ⟨⟨blk_cell h1 0, blk_cell h1 1, blk_cell h1 2, blk_cell h1 3, blk_cell h1 4, blk_cell h1 5, blk_cell h1 6, blk_cell h1 7⟩, h2.cells⟩
theorem bstep_any (l b0 b1 s0 s1 : Int) (g : Nat → Int) (gk : Nat) (w : World) (hl : 1 ≤ l ∧ l ≤ 3) (hg : ∀ k, k < 8 → 0 ≤ g k ∧ g k < 65536) (hK : KerAt w gk l b0 b1 s0 s1) :
    Calls Tryd.prog 16 #[.pointer (some ⟨gk, 0, none⟩), blkV g] w fun e w' => e = .returned (blkV (stepG l b0 b1 s0 s1 g)) ∧ Below w.heap.size w w' := by
  have hst := fun a b W => bst_any g a b W hg
  have HST := Aside0.mk hst
  have HG := Aside0.mk hg
  have HK := Aside0.mk hK
  have hkl := hK.lt
  obtain ⟨q, hq⟩ : ∃ q, q = bitQ l b0 b1 s0 s1 g := ⟨_, rfl⟩
  have HQ := Aside0.mk hq
  have hhv : halvesR l = 1 ∨ halvesR l = 2 := by unfold halvesR; split <;> omega
  have hodd : ∀ b a, halvesR l = 1 → q b (2 * a + 1) = false := fun b a e => by rw [hq]; unfold bitQ; rw [e, show (2 * a + 1) % 2 = 1 by omega]; rfl
  have HODD := Aside0.mk hodd
  have hHalves := halves_any l
  have HHV := Aside0.mk hHalves
  obtain ⟨hv, hhe⟩ : ∃ hv, hv = halvesR l := ⟨_, rfl⟩
  rw [← hhe] at hhv HHV HODD
  have HE := Aside0.mk hhe
  clear hst hg hK hq hodd hHalves hhe
  go_enter Tryd.func16, Tryd.ntmps16
  go_upto_region 2 with (fail)
  obtain ⟨w3, hw3⟩ : ∃ W, W = ((w.alloc (blkO g 52)).alloc (blkO (fun _ => 0) 52)).alloc (blkO (fun _ => 0) 52) := ⟨_, rfl⟩
  have bq : w3.heap[w.heap.size]? = some (blkO g 52) := by rw [hw3]; exact blk_alloc (blk_alloc (blk_new _ _) _) _
  have bo : w3.heap[w.heap.size + 1]? = some (blkO (fun _ => 0) 52) := by
    have := blk_new (w.alloc (blkO g 52)) (blkO (fun _ => 0) 52)
    rw [World.size_alloc] at this
    rw [hw3]
    exact blk_alloc this _
  have bx : w3.heap[w.heap.size + 1 + 1]? = some (blkO (fun _ => 0) 52) := by
    have := blk_new ((w.alloc (blkO g 52)).alloc (blkO (fun _ => 0) 52)) (blkO (fun _ => 0) 52)
    rw [World.size_alloc, World.size_alloc] at this
    rw [hw3]
    exact this
  have hB : Below w.heap.size w w3 := by rw [hw3]; exact (by with_reducible repeat (first | apply below_alloc | apply pw_below_drewN | apply below_drew | refine bset ?_ _ _ (by omega) _ | exact Below.refl _ _))
  rw [← hw3]
  clear hw3
  obtain ⟨g1, hg1⟩ : ∃ g, g = w.heap.size := ⟨_, rfl⟩
  obtain ⟨g2, hg2⟩ : ∃ g, g = w.heap.size + 1 := ⟨_, rfl⟩
  obtain ⟨g3, hg3⟩ : ∃ g, g = w.heap.size + 1 + 1 := ⟨_, rfl⟩
  rw [← hg1] at bq
  rw [← hg3] at bx ⊢
  rw [← hg2] at bo ⊢
  rw [← hg1]
  have n13 : g1 ≠ g3 := by omega
  have n23 : g2 ≠ g3 := by omega
  have l2 : w.heap.size ≤ g2 := by omega
  have l3 : w.heap.size ≤ g3 := by omega
  have hB3 := hB
  clear hg1 hg2 hg3
  go_wp2_with fail
  have R0 : ∃ W, W = w3 ∧ W.heap[g1]? = some (blkO g 52) ∧ W.heap[g2]? = some (blkO (fun _ => 0) 52) ∧ W.heap[g3]? = some (blkO (outU q 0 0) 52) ∧ Below w.heap.size w W := ⟨w3, rfl, bq, bo, by
    have e : outU q 0 0 = fun _ => 0 := by
      funext k
      unfold outU
      rw [if_neg (Nat.not_lt_zero k)]
      split <;> rfl
    rw [e]; exact bx, hB⟩
  obtain ⟨_, rfl, r1, r2, r3, r4⟩ := R0
  have R := Aside0.mk (And.intro r1 (And.intro r2 (And.intro r3 r4)))
  clear r1 r2 r3 r4 bq bo bx hB hB3
  go_loopw [10] (fun iv wr => ∃ b : Nat, b ≤ 8 ∧ iv = .int .i64 b ∧ wr.heap[g1]? = some (blkO g 52) ∧ wr.heap[g2]? = some (blkO (fun _ => 0) 52) ∧ wr.heap[g3]? = some (blkO (outU q b 0) 52) ∧ Below w.heap.size w wr) (fun iv _ => 8 - (intOf iv).toNat)
  case atStart => exact ⟨0, by omega, rfl, R.out⟩
  case round =>
    obtain ⟨b, hb, rfl, hR⟩ := hrel
    have RB := Aside0.mk hR
    clear hR R
    by_cases hb8 : b < 8
    · go_wp2_with fail
      go_loopw [13] (fun iv wr => ∃ a : Nat, a ≤ 8 ∧ iv = .int .i64 a ∧ wr.heap[g1]? = some (blkO g 52) ∧ wr.heap[g2]? = some (blkO (fun _ => 0) 52) ∧ wr.heap[g3]? = some (blkO (outU q b (2 * a)) 52) ∧ Below w.heap.size w wr) (fun iv _ => 8 - (intOf iv).toNat)
      case atStart => exact ⟨0, by omega, rfl, RB.out⟩
      case round =>
        obtain ⟨a, ha, rfl, hR⟩ := hrel
        have RA := Aside0.mk hR
        have hkk := (HK.out.below hR.2.2.2).cells.1
        clear hR RB
        by_cases ha8 : a < 8
        · go_wp2_with (go_at_call 49; refine (HHV.out _).mono ?_; rintro e w' ⟨rfl, rfl⟩)
          have hvn : ((hv.toNat : Nat) : Int) = hv := by omega
          go_loopw [22] (fun iv wr => ∃ h : Nat, h ≤ hv.toNat ∧ iv = .int .i64 h ∧ wr.heap[g1]? = some (blkO g 52) ∧ wr.heap[g2]? = some (blkO (fun _ => 0) 52) ∧ wr.heap[g3]? = some (blkO (outU q b (2 * a + h)) 52) ∧ Below w.heap.size w wr) (fun iv _ => 2 - (intOf iv).toNat)
          case atStart => exact ⟨0, by omega, rfl, RA.out⟩
          case round =>
            obtain ⟨h, hh, rfl, r1, r2, r3, r4⟩ := hrel
            by_cases hlt : (h : Int) < hv
            · have hh2 : (h : Int) = 0 ∨ (h : Int) = 1 := by omega
              have XO := And.intro (blk_cell r1 0) (And.intro (blk_cell r1 1) (And.intro (blk_cell r1 2) (And.intro (blk_cell r1 3) (And.intro (blk_cell r1 4) (And.intro (blk_cell r1 5) (And.intro (blk_cell r1 6) (blk_cell r1 7)))))))
              simp only [List.getElem?_toArray, List.getElem?_cons_zero, List.getElem?_cons_succ] at XO
              obtain ⟨x0, x1, x2, x3, x4, x5, x6, x7⟩ := XO
              have RW := Aside0.mk (And.intro r1 (And.intro r2 (And.intro r3 r4)))
              clear r1 r2 r3 r4 RA hkk
              go_wp2_with fail
              with_reducible refine (HST.out _ _ _).mono ?_
              rintro e w6 ⟨rfl, hb6⟩
              clear x0 x1 x2 x3 x4 x5 x6 x7
              obtain ⟨r1, r2, r3, r4⟩ := RW.out
              have z1 := blk_lt r1
              have z2 := blk_lt r2
              have z3 := blk_lt r3
              have X6 := Aside0.mk (blk_below r1 hb6)
              have Y6 := Aside0.mk (blk_below r2 hb6)
              have O6 := Aside0.mk (blk_below r3 hb6)
              have B6 := Aside0.mk (r4.trans (hb6.mono r4.size))
              clear r1 r2 r3 r4 hb6 RW z1 z2 z3
              obtain ⟨lv, hlv⟩ : ∃ lv : Bool, lv = decide (stB g (a : Int) (b : Int) / 2 ^ h % 2 = 1) := ⟨_, rfl⟩
              have hlv2 : (Go.bits .and .i64 (stB g (a : Int) (b : Int) / 2 ^ h) 1 == 1) = lv := by rw [and_1, hlv]; rfl
              have hsh : 0 ≤ (h : Int) ∧ (h : Int) ≤ 64 := by omega
              obtain ⟨hsh1, hsh2⟩ := hsh
              have HLV := Aside0.mk hlv
              clear hlv
              go_upto_region 12 with (fail)
              clear hlv2
              obtain ⟨wd, hwd⟩ : ∃ W, W = w6.drew := ⟨_, rfl⟩
              have BD := Aside0.mk (show Below w.heap.size w wd by rw [hwd]; exact below_drew B6.out)
              have KD := HK.out.below BD.out
              have XD := Aside0.mk (show wd.heap[g1]? = some (blkO g 52) by rw [hwd]; exact blk_drew X6.out)
              have YD := Aside0.mk (show wd.heap[g2]? = some (blkO (fun _ => 0) 52) by rw [hwd]; exact blk_drew Y6.out)
              have OD := Aside0.mk (show wd.heap[g3]? = some (blkO (outU q b (2 * a + h)) 52) by rw [hwd]; exact blk_drew O6.out)
              have hSD : S13 g1 gk g l b0 b1 s0 s1 w6.drew := hwd ▸ S13.of XD.out KD
              obtain ⟨n, hn⟩ : ∃ n, n = sumP g (a : Int) (b : Int) (nearK l (h : Int)) := ⟨_, rfl⟩
              have cA := bar_any l b0 b1 s0 s1 g (a : Int) (b : Int) (h : Int) gk w6.drew hl hh2 (by omega) (by omega) HG.out (hwd ▸ KD)
              rw [← hn] at cA
              obtain ⟨r, hr⟩ : ∃ r, r = nxK b0 b1 s0 s1 (h : Int) lv n := ⟨_, rfl⟩
              have cN := fun W => XNext.calls l b0 b1 s0 s1 (h : Int) lv n r W (by rw [hr]; rfl)
              have hqr : q b (2 * a + h) = r := by
                have e1 : (2 * a + h) % 2 = h := by omega
                have e2 : (2 * a + h) / 2 = a := by omega
                rw [HQ.out, hr, HLV.out, hn]
                unfold bitQ
                rw [e1, e2, ← HE.out, if_pos hlt]
              have CA := Aside0.mk cA
              have CN := Aside0.mk cN
              have HQR := Aside0.mk hqr
              have zd : w6.drew.heap.size = wd.heap.size := by rw [hwd]
              have XE := Aside0.mk (hwd ▸ XD.out)
              have YE := Aside0.mk (hwd ▸ YD.out)
              have OE := Aside0.mk (hwd ▸ OD.out)
              have BE := Aside0.mk (hwd ▸ BD.out)
              have KE := Aside0.mk (hwd ▸ KD)
              clear cA cN hqr hr hn BD XD YD OD KD hwd X6 Y6 O6 B6 zd HLV
              go_region_held3 (fun W => (W.cell? ⟨g1, 0, none⟩ = some (.int .u16 (g 0)) ∧ W.cell? ⟨g1, 1, none⟩ = some (.int .u16 (g 1)) ∧ W.cell? ⟨g1, 2, none⟩ = some (.int .u16 (g 2)) ∧ W.cell? ⟨g1, 3, none⟩ = some (.int .u16 (g 3)) ∧ W.cell? ⟨g1, 4, none⟩ = some (.int .u16 (g 4)) ∧ W.cell? ⟨g1, 5, none⟩ = some (.int .u16 (g 5)) ∧ W.cell? ⟨g1, 6, none⟩ = some (.int .u16 (g 6)) ∧ W.cell? ⟨g1, 7, none⟩ = some (.int .u16 (g 7))) ∧ W.cell? ⟨gk, 0, none⟩ = some (.int .i64 l) ∧ W.cell? ⟨gk, 1, none⟩ = some (.int .u64 b0) ∧ W.cell? ⟨gk, 2, none⟩ = some (.int .u64 b1) ∧ W.cell? ⟨gk, 3, none⟩ = some (.int .u64 s0) ∧ W.cell? ⟨gk, 4, none⟩ = some (.int .u64 s1))
                (with_reducible assumption)
                (first
                  | (go_at_call 51
                     with_reducible refine CA.out.mono ?_
                     rintro e w7 ⟨rfl, hb7⟩
                     have z1 := BE.out.size
                     have X7 := Aside0.mk (blk_below XE.out hb7)
                     have Y7 := Aside0.mk (blk_below YE.out hb7)
                     have O7 := Aside0.mk (blk_below OE.out hb7)
                     have B7 := Aside0.mk (BE.out.trans (hb7.mono z1))
                     have K7 := Aside0.mk (KE.out.below hb7)
                     have hS7 : S13 g1 gk g l b0 b1 s0 s1 w7 := S13.of X7.out K7.out
                     clear z1 hb7 XE YE OE BE KE)
                  | (go_at_call 50
                     with_reducible refine (CN.out _).mono ?_
                     rintro e w8 ⟨rfl, hb8⟩
                     have z1 := B7.out.size
                     have X8 := Aside0.mk (blk_below X7.out hb8)
                     have Y8 := Aside0.mk (blk_below Y7.out hb8)
                     have O8 := Aside0.mk (blk_below O7.out hb8)
                     have B8 := Aside0.mk (B7.out.trans (hb8.mono z1))
                     have K8 := Aside0.mk (K7.out.below hb8)
                     have hS8 : S13 g1 gk g l b0 b1 s0 s1 w8 := S13.of X8.out K8.out
                     clear z1 hb8 X7 Y7 O7 B7 K7))
              clear hSD hS7 hS8 K8 CA CN
              have hqv := HQR.out
              cases r with
              | false =>
                have hsk := outU_skip q b (2 * a + h) hqv
                have O9 := O8.out
                rw [hsk] at O9
                have O10 := Aside0.mk O9
                clear O9 O8 hsk hqv HQR
                go_wp2
                go_roundw
                case rel => exact ⟨h + 1, by omega, by go_num, X8.out, Y8.out, O10.out, B8.out⟩
                case measure => simp [intOf]; omega
              | true =>
                have hpt := outU_put q b (2 * a + h) hqv
                have hrow := outU_at q b (2 * a + h)
                obtain ⟨hr0, hr1⟩ := rowS_bd (q b) (2 * a + h)
                rw [← hrow] at hr0 hr1
                have xb := (blk_cell O8.out b).trans (arr8_get (outU q b (2 * a + h)) b hb8)
                have xf := blk_frozen O8.out
                have hnew := or_new (outU q b (2 * a + h) b) (2 * a + h) (by omega) hr0 hr1
                have HPT := Aside0.mk hpt
                have hw1 : IntKind.i64.wrap (2 * (a : Int)) = 2 * (a : Int) := by rw [IntKind.wrap_i64]; omega
                have hw2 : IntKind.i64.wrap (2 * (a : Int) + (h : Int)) = 2 * (a : Int) + (h : Int) := by rw [IntKind.wrap_i64]; omega
                have hsh3 : 0 ≤ 2 * (a : Int) + (h : Int) := by omega
                have hsh4 : 2 * (a : Int) + (h : Int) ≤ 16 := by omega
                have htn : (2 * (a : Int) + (h : Int)).toNat = 2 * a + h := by omega
                clear hpt hrow hr0 hr1 hqv HQR
                go_upto_region 13 with (fail)
                go_region
                all_goals
                  go_wp2
                  go_roundw
                  case rel => exact ⟨h + 1, by omega, by go_num, blk_far (blk_drew X8.out) (p := ⟨g3, b, none⟩) n13 _, blk_far (blk_drew Y8.out) (p := ⟨g3, b, none⟩) n23 _, by rw [← Nat.add_assoc, ← HPT.out]; exact blk_put (blk_drew O8.out) b _ (arr8_set _ b hb8 _), Below.setCell (p := ⟨g3, b, none⟩) (below_drew B8.out) l3 _⟩
                  case measure => simp [intOf]; omega
            · have hhe : h = hv.toNat := by omega
              have r3' : wr.heap[g3]? = some (blkO (outU q b (2 * (a + 1))) 52) := by
                rcases hhv with e | e
                · have hs := outU_skip q b (2 * a + 1) (HODD.out b a e)
                  rw [show 2 * (a + 1) = 2 * a + 1 + 1 by omega, ← hs, show 2 * a + 1 = 2 * a + h by omega]
                  exact r3
                · rw [show 2 * (a + 1) = 2 * a + h by omega]
                  exact r3
              have RW := Aside0.mk (And.intro r1 (And.intro r2 (And.intro r3' r4)))
              clear r1 r2 r3 r3' r4 RA hkk
              go_wp2
              exact ⟨⟨_, _, _, .int .i64 ((a : Int) + 1), ⟨a + 1, by omega, by go_num, RW.out⟩, rfl, rfl, rfl, rfl⟩, by simp [intOf]; omega⟩
        · obtain rfl : a = 8 := by omega
          have e16 := outU_row q b
          have RA2 := RA.out
          rw [show 2 * 8 = 16 from rfl, e16] at RA2
          have RA3 := Aside0.mk RA2
          clear RA RA2 e16 hkk
          go_wp2
          go_roundw
          case rel => exact ⟨b + 1, by omega, by go_num, RA3.out⟩
          case measure => simp [intOf]; omega
    · obtain rfl : b = 8 := by omega
      obtain ⟨r1, r2, r3, r4⟩ := RB.out
      have XO := And.intro (blk_cell r3 0) (And.intro (blk_cell r3 1) (And.intro (blk_cell r3 2) (And.intro (blk_cell r3 3) (And.intro (blk_cell r3 4) (And.intro (blk_cell r3 5) (And.intro (blk_cell r3 6) (blk_cell r3 7)))))))
      have YO := And.intro (blk_cell r2 0) (And.intro (blk_cell r2 1) (And.intro (blk_cell r2 2) (And.intro (blk_cell r2 3) (And.intro (blk_cell r2 4) (And.intro (blk_cell r2 5) (And.intro (blk_cell r2 6) (blk_cell r2 7)))))))
      have yf := blk_frozen r2
      simp only [List.getElem?_toArray, List.getElem?_cons_zero, List.getElem?_cons_succ] at XO YO
      obtain ⟨x0, x1, x2, x3, x4, x5, x6, x7⟩ := XO
      obtain ⟨y0, y1, y2, y3, y4, y5, y6, y7⟩ := YO
      have RO := Aside0.mk r2
      have HB := Aside0.mk r4
      clear r1 r2 r3 r4
      go_wp2
      have hfin : blkV (outU q 8 0) = blkV (stepG l b0 b1 s0 s1 g) := by rw [HQ.out]; rfl
      exact bodyPost_ret (results_cell_row rfl _ _ g2 52 _ (0, 0) _ rfl (set8_blk (outU q 8 0) RO.out) Tryd.underlying52 rfl (by kernel_rfl)) rfl ⟨congrArg Ending.returned hfin, set8_below (outU q 8 0) HB.out l2⟩
/-- which of four leaves has a point -/
def lfQ (q0 q1 q2 q3 : Int) (a b : Nat) : Int := if b < 4 then (if a < 4 then q0 else q1) else (if a < 4 then q2 else q3)
theorem stB_of (q0 q1 q2 q3 : Int) (h0 : 0 ≤ q0) (h1 : 0 ≤ q1) (h2 : 0 ≤ q2) (h3 : 0 ≤ q3) (a b : Nat) (ha : a < 8) (hb : b < 8) : stB (ofG q0 q1 q2 q3) (a : Int) (b : Int) = lfQ q0 q1 q2 q3 a b / 2 ^ (8 * (b % 4) + 2 * (a % 4)) % 4 := by
  unfold stB
  rw [if_neg (by omega), show ((b : Nat) : Int).toNat = b from Int.toNat_natCast b, show (2 * (a : Int)).toNat = 2 * a by omega]
  unfold ofG ofRow lfQ
  obtain ⟨q, hq⟩ : ∃ q, q = (if b < 4 then q0 else q2) := ⟨_, rfl⟩
  obtain ⟨q', hq'⟩ : ∃ q, q = (if b < 4 then q1 else q3) := ⟨_, rfl⟩
  rw [← hq, ← hq']
  have hr : (if b < 4 then if a < 4 then q0 else q1 else if a < 4 then q2 else q3) = if a < 4 then q else q' := by
    rw [hq, hq']
    split <;> split <;> rfl
  rw [hr]
  have p0 : 0 ≤ q := by rw [hq]; split <;> omega
  have p1 : 0 ≤ q' := by rw [hq']; split <;> omega
  clear hr hq hq' h0 h1 h2 h3
  rw [Int.pow_add]
  obtain ⟨c, hc⟩ : ∃ c : Int, c = 2 ^ (8 * (b % 4)) := ⟨_, rfl⟩
  have hcp : 0 < c := by rw [hc]; exact Int.pow_pos (by decide)
  rw [← hc]
  have e0 : ∀ x : Int, x / (c * 2 ^ (2 * (a % 4))) = x / c / 2 ^ (2 * (a % 4)) := fun x => by rw [Int.ediv_ediv_of_nonneg (Int.le_of_lt hcp)]
  have n0 := Int.ediv_nonneg p0 (Int.le_of_lt hcp)
  have n1 := Int.ediv_nonneg p1 (Int.le_of_lt hcp)
  have hc8 : a = 0 ∨ a = 1 ∨ a = 2 ∨ a = 3 ∨ a = 4 ∨ a = 5 ∨ a = 6 ∨ a = 7 := by omega
  rcases hc8 with rfl | rfl | rfl | rfl | rfl | rfl | rfl | rfl
  all_goals
    simp only [show (0 : Nat) < 4 from by decide, show (1 : Nat) < 4 from by decide, show (2 : Nat) < 4 from by decide, show (3 : Nat) < 4 from by decide, show ¬ (4 : Nat) < 4 from by decide, show ¬ (5 : Nat) < 4 from by decide, show ¬ (6 : Nat) < 4 from by decide, show ¬ (7 : Nat) < 4 from by decide, ↓reduceIte, e0]
    generalize q / c = x at *
    generalize q' / c = y at *
    simp only [Nat.reduceMod, Nat.reduceMul, Int.reducePow]
    omega
/-- bytes, of which j are there already -/
def sum4 (f : Nat → Int) (j : Nat) : Int := (if 0 < j then f 0 else 0) + (if 1 < j then 256 * f 1 else 0) + (if 2 < j then 65536 * f 2 else 0) + (if 3 < j then 16777216 * f 3 else 0)
/-- what a row of the middle gives -/
def midB (g : Nat → Int) (k : Nat) : Int := g (k + 2) / 16 % 256
def midF (g : Nat → Int) (j : Nat) : Int := sum4 (midB g) j
theorem and255h (x : Int) (h0 : 0 ≤ x) (h1 : x < 65536) : Go.bits .and .u16 x 255 = x % 256 := by
  rw [Go.u16_and x 255 h0 h1 (by omega) (by omega), show (255 : Int).toNat = 255 from rfl, Go.nat_mask8]
  omega
theorem or_up (x y m : Int) (i : Nat) (hm : m = 2 ^ i) (hi : m ≤ 16777216) (hx : 0 ≤ x ∧ x < m) (hy : 0 ≤ y ∧ y < 256) : Go.bits .or .u32 x (y * m) = x + m * y := by
  have hpos : (0 : Int) < m := by omega
  have h1 : y * m ≤ 255 * m := Int.mul_le_mul_of_nonneg_right (by omega) (Int.le_of_lt hpos)
  have h0 : 0 ≤ y * m := Int.mul_nonneg hy.1 (Int.le_of_lt hpos)
  obtain ⟨a, rfl⟩ := Int.eq_ofNat_of_zero_le hx.1
  obtain ⟨b, rfl⟩ := Int.eq_ofNat_of_zero_le hy.1
  have e : (b : Int) * m = ((b * 2 ^ i : Nat) : Int) := by subst hm; push_cast; rfl
  have hm2 : m = ((2 ^ i : Nat) : Int) := by subst hm; push_cast; rfl
  have hx2 : a < 2 ^ i := by omega
  rw [e, Go.u32_or_nat a (b * 2 ^ i) (by omega) (by omega), Nat.or_comm, Go.nat_join i _ _ (Nat.mul_mod_left b (2 ^ i)) hx2]
  rw [Int.natCast_add, ← e, Int.mul_comm, Int.add_comm]
theorem s4_0 (f : Nat → Int) (h : 0 ≤ f 0 ∧ f 0 < 256) : Go.bits .or .u32 (sum4 f 0) (f 0) = sum4 f 1 := by
  have := or_up 0 (f 0) 1 0 rfl (by omega) (by omega) h
  rw [Int.mul_one] at this
  refine (this.trans ?_)
  simp [sum4]
theorem s4_1 (f : Nat → Int) (h0 : 0 ≤ f 0 ∧ f 0 < 256) (h : 0 ≤ f 1 ∧ f 1 < 256) : Go.bits .or .u32 (sum4 f 1) (f 1 * 256) = sum4 f 2 := by
  have e1 : sum4 f 1 = f 0 := by simp [sum4]
  have := or_up (sum4 f 1) (f 1) 256 8 rfl (by omega) (by omega) h
  refine (this.trans ?_)
  simp [sum4]
theorem s4_2 (f : Nat → Int) (h0 : 0 ≤ f 0 ∧ f 0 < 256) (h1 : 0 ≤ f 1 ∧ f 1 < 256) (h : 0 ≤ f 2 ∧ f 2 < 256) : Go.bits .or .u32 (sum4 f 2) (f 2 * 65536) = sum4 f 3 := by
  have e1 : sum4 f 2 = f 0 + 256 * f 1 := by simp [sum4]
  have := or_up (sum4 f 2) (f 2) 65536 16 rfl (by omega) (by omega) h
  refine (this.trans ?_)
  simp [sum4]
theorem s4_3 (f : Nat → Int) (h0 : 0 ≤ f 0 ∧ f 0 < 256) (h1 : 0 ≤ f 1 ∧ f 1 < 256) (h2 : 0 ≤ f 2 ∧ f 2 < 256) (h : 0 ≤ f 3 ∧ f 3 < 256) : Go.bits .or .u32 (sum4 f 3) (f 3 * 16777216) = sum4 f 4 := by
  have e1 : sum4 f 3 = f 0 + 256 * f 1 + 65536 * f 2 := by simp [sum4]
  have := or_up (sum4 f 3) (f 3) 16777216 24 rfl (by omega) (by omega) h
  refine (this.trans ?_)
  simp [sum4]
theorem mid0 (g : Nat → Int) (h : 0 ≤ midB g 0 ∧ midB g 0 < 256) : Go.bits .or .u32 (midF g 0) (g 2 / 16 % 256) = midF g 1 := s4_0 (midB g) h
theorem mid1 (g : Nat → Int) (h0 : 0 ≤ midB g 0 ∧ midB g 0 < 256) (h : 0 ≤ midB g 1 ∧ midB g 1 < 256) : Go.bits .or .u32 (midF g 1) (g 3 / 16 % 256 * 256) = midF g 2 := s4_1 (midB g) h0 h
theorem mid2 (g : Nat → Int) (h0 : 0 ≤ midB g 0 ∧ midB g 0 < 256) (h1 : 0 ≤ midB g 1 ∧ midB g 1 < 256) (h : 0 ≤ midB g 2 ∧ midB g 2 < 256) : Go.bits .or .u32 (midF g 2) (g 4 / 16 % 256 * 65536) = midF g 3 := s4_2 (midB g) h0 h1 h
theorem mid3 (g : Nat → Int) (h0 : 0 ≤ midB g 0 ∧ midB g 0 < 256) (h1 : 0 ≤ midB g 1 ∧ midB g 1 < 256) (h2 : 0 ≤ midB g 2 ∧ midB g 2 < 256) (h : 0 ≤ midB g 3 ∧ midB g 3 < 256) : Go.bits .or .u32 (midF g 3) (g 5 / 16 % 256 * 16777216) = midF g 4 := s4_3 (midB g) h0 h1 h2 h
theorem bmid_any (g : Nat → Int) (w : World) (hg : ∀ k, k < 8 → 0 ≤ g k ∧ g k < 65536) :
    Calls Tryd.prog 21 #[blkV g] w fun e w' => e = .returned (.int .u32 (midF g 4)) ∧ Below w.heap.size w w' := by
  have hb : ∀ k, k < 4 → 0 ≤ midB g k ∧ midB g k < 256 := fun k hk => by unfold midB; omega
  have a0 := and255h (g 2 / 16) (by have := hg 2 (by omega); omega) (by have := hg 2 (by omega); omega)
  have a1 := and255h (g 3 / 16) (by have := hg 3 (by omega); omega) (by have := hg 3 (by omega); omega)
  have a2 := and255h (g 4 / 16) (by have := hg 4 (by omega); omega) (by have := hg 4 (by omega); omega)
  have a3 := and255h (g 5 / 16) (by have := hg 5 (by omega); omega) (by have := hg 5 (by omega); omega)
  have b0 := hb 0 (by omega)
  have b1 := hb 1 (by omega)
  have b2 := hb 2 (by omega)
  have b3 := hb 3 (by omega)
  clear hb hg
  go_enter Tryd.func21, Tryd.ntmps21
  go_upto_region 1 with (fail)
  obtain ⟨w3, hw3⟩ : ∃ W, W = w.alloc (blkO g 52) := ⟨_, rfl⟩
  have bx : w3.heap[w.heap.size]? = some (blkO g 52) := by rw [hw3]; exact blk_new _ _
  have hB : Below w.heap.size w w3 := by rw [hw3]; exact (by with_reducible repeat (first | apply below_alloc | apply pw_below_drewN | apply below_drew | refine bset ?_ _ _ (by omega) _ | exact Below.refl _ _))
  rw [← hw3]
  clear hw3
  have XO := And.intro (blk_cell bx 2) (And.intro (blk_cell bx 3) (And.intro (blk_cell bx 4) (blk_cell bx 5)))
  simp only [List.getElem?_toArray, List.getElem?_cons_zero, List.getElem?_cons_succ] at XO
  obtain ⟨x2, x3, x4, x5⟩ := XO
  have HB := Aside0.mk hB
  clear bx hB
  go_wp2_with fail
  go_loopw [3, 5] (fun f iv wr => ∃ j : Nat, j ≤ 4 ∧ iv = .int .i64 j ∧ f = .int .u32 (midF g j) ∧ wr = w3) (fun _ iv _ => 4 - (intOf iv).toNat)
  case atStart => exact ⟨0, by omega, rfl, rfl, rfl⟩
  case round =>
    obtain ⟨j, hj, rfl, rfl, rfl⟩ := hrel
    by_cases hlt : j < 4
    · have hjj : j = 0 ∨ j = 1 ∨ j = 2 ∨ j = 3 := by omega
      rcases hjj with rfl | rfl | rfl | rfl
      · go_wp2
        go_roundw
        case rel => exact ⟨1, by omega, by go_num, by rw [mid0 g b0], trivial⟩
        case measure => simp [intOf]
      · go_wp2
        go_roundw
        case rel => exact ⟨2, by omega, by go_num, by rw [mid1 g b0 b1], trivial⟩
        case measure => simp [intOf]
      · go_wp2
        go_roundw
        case rel => exact ⟨3, by omega, by go_num, by rw [mid2 g b0 b1 b2], trivial⟩
        case measure => simp [intOf]
      · go_wp2
        go_roundw
        case rel => exact ⟨4, by omega, by go_num, by rw [mid3 g b0 b1 b2 b3], trivial⟩
        case measure => simp [intOf]
    · obtain rfl : j = 4 := by omega
      go_wp2
      go_ret
      exact ⟨rfl, HB.out⟩
def qlo (g : Nat → Int) (o k : Nat) : Int := g (o + k) % 256
def qhi (g : Nat → Int) (o k : Nat) : Int := g (o + k) / 256
/-- the leaves, of which j rows are there already -/
abbrev quaC (g : Nat → Int) (j : Nat) : Array Value := #[.int .u32 (sum4 (qlo g 0) (min j 4)), .int .u32 (sum4 (qhi g 0) (min j 4)), .int .u32 (sum4 (qlo g 4) (j - 4)), .int .u32 (sum4 (qhi g 4) (j - 4))]
theorem bqua_any (g : Nat → Int) (w : World) (hg : ∀ k, k < 8 → 0 ≤ g k ∧ g k < 65536) :
    Calls Tryd.prog 25 #[blkV g] w fun e w' => e = .returned (.agg (quaC g 8)) ∧ Below w.heap.size w w' := by
  have hlo : ∀ o k, o + k < 8 → 0 ≤ qlo g o k ∧ qlo g o k < 256 := fun o k hk => by unfold qlo; omega
  have hhi : ∀ o k, o + k < 8 → 0 ≤ qhi g o k ∧ qhi g o k < 256 := fun o k hk => by have := hg (o + k) hk; unfold qhi; omega
  have HLO := Aside0.mk hlo
  have HHI := Aside0.mk hhi
  have HGG := Aside0.mk hg
  have i0 : ∀ w, (Instr.index 52 (blkV g) (.int .i64 0)).run Tryd.prog w = .ok (.int .u16 (g 0)) w := fun _ => by kernel_rfl
  have p0 := and255h (g 0) (hg 0 (by omega)).1 (hg 0 (by omega)).2
  have i1 : ∀ w, (Instr.index 52 (blkV g) (.int .i64 1)).run Tryd.prog w = .ok (.int .u16 (g 1)) w := fun _ => by kernel_rfl
  have p1 := and255h (g 1) (hg 1 (by omega)).1 (hg 1 (by omega)).2
  have i2 : ∀ w, (Instr.index 52 (blkV g) (.int .i64 2)).run Tryd.prog w = .ok (.int .u16 (g 2)) w := fun _ => by kernel_rfl
  have p2 := and255h (g 2) (hg 2 (by omega)).1 (hg 2 (by omega)).2
  have i3 : ∀ w, (Instr.index 52 (blkV g) (.int .i64 3)).run Tryd.prog w = .ok (.int .u16 (g 3)) w := fun _ => by kernel_rfl
  have p3 := and255h (g 3) (hg 3 (by omega)).1 (hg 3 (by omega)).2
  have i4 : ∀ w, (Instr.index 52 (blkV g) (.int .i64 4)).run Tryd.prog w = .ok (.int .u16 (g 4)) w := fun _ => by kernel_rfl
  have p4 := and255h (g 4) (hg 4 (by omega)).1 (hg 4 (by omega)).2
  have i5 : ∀ w, (Instr.index 52 (blkV g) (.int .i64 5)).run Tryd.prog w = .ok (.int .u16 (g 5)) w := fun _ => by kernel_rfl
  have p5 := and255h (g 5) (hg 5 (by omega)).1 (hg 5 (by omega)).2
  have i6 : ∀ w, (Instr.index 52 (blkV g) (.int .i64 6)).run Tryd.prog w = .ok (.int .u16 (g 6)) w := fun _ => by kernel_rfl
  have p6 := and255h (g 6) (hg 6 (by omega)).1 (hg 6 (by omega)).2
  have i7 : ∀ w, (Instr.index 52 (blkV g) (.int .i64 7)).run Tryd.prog w = .ok (.int .u16 (g 7)) w := fun _ => by kernel_rfl
  have p7 := and255h (g 7) (hg 7 (by omega)).1 (hg 7 (by omega)).2
  clear hlo hhi hg
  go_enter Tryd.func25, Tryd.ntmps25
  go_upto_region 2 with (fail)
  obtain ⟨w3, hw3⟩ : ∃ W, W = ((w.alloc (blkO g 52)).alloc (.cells #[.int .u32 0, .int .u32 0, .int .u32 0, .int .u32 0] 56 (0, 0))).alloc (.cells #[.int .u32 0, .int .u32 0, .int .u32 0, .int .u32 0] 56 (0, 0)) := ⟨_, rfl⟩
  have bq : w3.heap[w.heap.size]? = some (blkO g 52) := by rw [hw3]; exact blk_alloc (blk_alloc (blk_new _ _) _) _
  have bo : w3.heap[w.heap.size + 1]? = some (.cells #[.int .u32 0, .int .u32 0, .int .u32 0, .int .u32 0] 56 (0, 0)) := by
    have := blk_new (w.alloc (blkO g 52)) (.cells #[.int .u32 0, .int .u32 0, .int .u32 0, .int .u32 0] 56 (0, 0))
    rw [World.size_alloc] at this
    rw [hw3]
    exact blk_alloc this _
  have bx : w3.heap[w.heap.size + 1 + 1]? = some (.cells #[.int .u32 0, .int .u32 0, .int .u32 0, .int .u32 0] 56 (0, 0)) := by
    have := blk_new ((w.alloc (blkO g 52)).alloc (.cells #[.int .u32 0, .int .u32 0, .int .u32 0, .int .u32 0] 56 (0, 0))) (.cells #[.int .u32 0, .int .u32 0, .int .u32 0, .int .u32 0] 56 (0, 0))
    rw [World.size_alloc, World.size_alloc] at this
    rw [hw3]
    exact this
  have hB : Below w.heap.size w w3 := by rw [hw3]; exact (by with_reducible repeat (first | apply below_alloc | apply pw_below_drewN | apply below_drew | refine bset ?_ _ _ (by omega) _ | exact Below.refl _ _))
  rw [← hw3]
  clear hw3
  obtain ⟨g1, hg1⟩ : ∃ g, g = w.heap.size := ⟨_, rfl⟩
  obtain ⟨g2, hg2⟩ : ∃ g, g = w.heap.size + 1 := ⟨_, rfl⟩
  obtain ⟨g3, hg3⟩ : ∃ g, g = w.heap.size + 1 + 1 := ⟨_, rfl⟩
  rw [← hg1] at bq
  rw [← hg3] at bx ⊢
  rw [← hg2] at bo ⊢
  rw [← hg1]
  have n23 : g2 ≠ g3 := by omega
  have l2 : w.heap.size ≤ g2 := by omega
  have l3 : w.heap.size ≤ g3 := by omega
  clear hg1 hg2 hg3
  have XO := And.intro (blk_cell bq 0) (And.intro (blk_cell bq 1) (And.intro (blk_cell bq 2) (And.intro (blk_cell bq 3) (And.intro (blk_cell bq 4) (And.intro (blk_cell bq 5) (And.intro (blk_cell bq 6) (blk_cell bq 7)))))))
  simp only [List.getElem?_toArray, List.getElem?_cons_zero, List.getElem?_cons_succ] at XO
  obtain ⟨x0, x1, x2, x3, x4, x5, x6, x7⟩ := XO
  go_wp2_with fail
  clear x0 x1 x2 x3 x4 x5 x6 x7 bq
  go_loopw [9] (fun iv wr => ∃ j : Nat, j ≤ 8 ∧ iv = .int .i64 j ∧ wr.heap[g2]? = some (.cells #[.int .u32 0, .int .u32 0, .int .u32 0, .int .u32 0] 56 (0, 0)) ∧ wr.heap[g3]? = some (.cells (quaC g j) 56 (0, 0)) ∧ Below w.heap.size w wr) (fun iv _ => 8 - (intOf iv).toNat)
  case atStart => exact ⟨0, by omega, rfl, bo, bx, hB⟩
  case round =>
    obtain ⟨j, hj, rfl, ro, rx, hB⟩ := hrel
    have RO := Aside0.mk ro
    have RX := Aside0.mk rx
    have HB := Aside0.mk hB
    have xf := blk_frozen rx
    clear bo bx ro hB rx
    by_cases hlt : j < 8
    · have hjj : j = 0 ∨ j = 1 ∨ j = 2 ∨ j = 3 ∨ j = 4 ∨ j = 5 ∨ j = 6 ∨ j = 7 := by omega
      rcases hjj with rfl | rfl | rfl | rfl | rfl | rfl | rfl | rfl
      · have xa := blk_cell RX.out 0
        have xb := blk_cell RX.out 1
        simp only [List.getElem?_toArray, List.getElem?_cons_zero, List.getElem?_cons_succ] at xa xb
        have ga := HGG.out 0 (by omega)
        have E1 := Aside0.mk (show Go.bits .or .u32 (sum4 (qlo g 0) 0) (g 0 % 256) = sum4 (qlo g 0) 1 from s4_0 (qlo g 0) (HLO.out 0 0 (by omega)))
        have E2 := Aside0.mk (show Go.bits .or .u32 (sum4 (qhi g 0) 0) (g 0 / 256) = sum4 (qhi g 0) 1 from s4_0 (qhi g 0) (HHI.out 0 0 (by omega)))
        go_upto_region 7 with (fail)
        go_region
        all_goals
          go_upto_region 8 with (fail)
          go_region
          all_goals
            clear i0 i1 i2 i3 i4 i5 i6 i7 p0 p1 p2 p3 p4 p5 p6 p7
            go_wp2
            go_roundw
            case rel => exact ⟨1, by omega, by go_num, blk_far (blk_drew (blk_far (blk_drew RO.out) (p := ⟨g3, 0, none⟩) n23 _)) (p := ⟨g3, 1, none⟩) n23 _, blk_put (blk_drew (blk_put (blk_drew RX.out) 0 _ rfl)) 1 _ (by rw [E1.out, E2.out]; rfl), Below.setCell (p := ⟨g3, 1, none⟩) (below_drew (Below.setCell (p := ⟨g3, 0, none⟩) (below_drew HB.out) l3 _)) l3 _⟩
            case measure => simp [intOf]
      · have xa := blk_cell RX.out 0
        have xb := blk_cell RX.out 1
        simp only [List.getElem?_toArray, List.getElem?_cons_zero, List.getElem?_cons_succ] at xa xb
        have ga := HGG.out 1 (by omega)
        have E1 := Aside0.mk (show Go.bits .or .u32 (sum4 (qlo g 0) 1) (g 1 % 256 * 256) = sum4 (qlo g 0) 2 from s4_1 (qlo g 0) (HLO.out 0 0 (by omega)) (HLO.out 0 1 (by omega)))
        have E2 := Aside0.mk (show Go.bits .or .u32 (sum4 (qhi g 0) 1) (g 1 / 256 * 256) = sum4 (qhi g 0) 2 from s4_1 (qhi g 0) (HHI.out 0 0 (by omega)) (HHI.out 0 1 (by omega)))
        go_upto_region 7 with (fail)
        go_region
        all_goals
          go_upto_region 8 with (fail)
          go_region
          all_goals
            clear i0 i1 i2 i3 i4 i5 i6 i7 p0 p1 p2 p3 p4 p5 p6 p7
            go_wp2
            go_roundw
            case rel => exact ⟨2, by omega, by go_num, blk_far (blk_drew (blk_far (blk_drew RO.out) (p := ⟨g3, 0, none⟩) n23 _)) (p := ⟨g3, 1, none⟩) n23 _, blk_put (blk_drew (blk_put (blk_drew RX.out) 0 _ rfl)) 1 _ (by rw [E1.out, E2.out]; rfl), Below.setCell (p := ⟨g3, 1, none⟩) (below_drew (Below.setCell (p := ⟨g3, 0, none⟩) (below_drew HB.out) l3 _)) l3 _⟩
            case measure => simp [intOf]
      · have xa := blk_cell RX.out 0
        have xb := blk_cell RX.out 1
        simp only [List.getElem?_toArray, List.getElem?_cons_zero, List.getElem?_cons_succ] at xa xb
        have ga := HGG.out 2 (by omega)
        have E1 := Aside0.mk (show Go.bits .or .u32 (sum4 (qlo g 0) 2) (g 2 % 256 * 65536) = sum4 (qlo g 0) 3 from s4_2 (qlo g 0) (HLO.out 0 0 (by omega)) (HLO.out 0 1 (by omega)) (HLO.out 0 2 (by omega)))
        have E2 := Aside0.mk (show Go.bits .or .u32 (sum4 (qhi g 0) 2) (g 2 / 256 * 65536) = sum4 (qhi g 0) 3 from s4_2 (qhi g 0) (HHI.out 0 0 (by omega)) (HHI.out 0 1 (by omega)) (HHI.out 0 2 (by omega)))
        go_upto_region 7 with (fail)
        go_region
        all_goals
          go_upto_region 8 with (fail)
          go_region
          all_goals
            clear i0 i1 i2 i3 i4 i5 i6 i7 p0 p1 p2 p3 p4 p5 p6 p7
            go_wp2
            go_roundw
            case rel => exact ⟨3, by omega, by go_num, blk_far (blk_drew (blk_far (blk_drew RO.out) (p := ⟨g3, 0, none⟩) n23 _)) (p := ⟨g3, 1, none⟩) n23 _, blk_put (blk_drew (blk_put (blk_drew RX.out) 0 _ rfl)) 1 _ (by rw [E1.out, E2.out]; rfl), Below.setCell (p := ⟨g3, 1, none⟩) (below_drew (Below.setCell (p := ⟨g3, 0, none⟩) (below_drew HB.out) l3 _)) l3 _⟩
            case measure => simp [intOf]
      · have xa := blk_cell RX.out 0
        have xb := blk_cell RX.out 1
        simp only [List.getElem?_toArray, List.getElem?_cons_zero, List.getElem?_cons_succ] at xa xb
        have ga := HGG.out 3 (by omega)
        have E1 := Aside0.mk (show Go.bits .or .u32 (sum4 (qlo g 0) 3) (g 3 % 256 * 16777216) = sum4 (qlo g 0) 4 from s4_3 (qlo g 0) (HLO.out 0 0 (by omega)) (HLO.out 0 1 (by omega)) (HLO.out 0 2 (by omega)) (HLO.out 0 3 (by omega)))
        have E2 := Aside0.mk (show Go.bits .or .u32 (sum4 (qhi g 0) 3) (g 3 / 256 * 16777216) = sum4 (qhi g 0) 4 from s4_3 (qhi g 0) (HHI.out 0 0 (by omega)) (HHI.out 0 1 (by omega)) (HHI.out 0 2 (by omega)) (HHI.out 0 3 (by omega)))
        go_upto_region 7 with (fail)
        go_region
        all_goals
          go_upto_region 8 with (fail)
          go_region
          all_goals
            clear i0 i1 i2 i3 i4 i5 i6 i7 p0 p1 p2 p3 p4 p5 p6 p7
            go_wp2
            go_roundw
            case rel => exact ⟨4, by omega, by go_num, blk_far (blk_drew (blk_far (blk_drew RO.out) (p := ⟨g3, 0, none⟩) n23 _)) (p := ⟨g3, 1, none⟩) n23 _, blk_put (blk_drew (blk_put (blk_drew RX.out) 0 _ rfl)) 1 _ (by rw [E1.out, E2.out]; rfl), Below.setCell (p := ⟨g3, 1, none⟩) (below_drew (Below.setCell (p := ⟨g3, 0, none⟩) (below_drew HB.out) l3 _)) l3 _⟩
            case measure => simp [intOf]
      · have xa := blk_cell RX.out 2
        have xb := blk_cell RX.out 3
        simp only [List.getElem?_toArray, List.getElem?_cons_zero, List.getElem?_cons_succ] at xa xb
        have ga := HGG.out 4 (by omega)
        have E1 := Aside0.mk (show Go.bits .or .u32 (sum4 (qlo g 4) 0) (g 4 % 256) = sum4 (qlo g 4) 1 from s4_0 (qlo g 4) (HLO.out 4 0 (by omega)))
        have E2 := Aside0.mk (show Go.bits .or .u32 (sum4 (qhi g 4) 0) (g 4 / 256) = sum4 (qhi g 4) 1 from s4_0 (qhi g 4) (HHI.out 4 0 (by omega)))
        go_upto_region 7 with (fail)
        go_region
        all_goals
          go_upto_region 8 with (fail)
          go_region
          all_goals
            clear i0 i1 i2 i3 i4 i5 i6 i7 p0 p1 p2 p3 p4 p5 p6 p7
            go_wp2
            go_roundw
            case rel => exact ⟨5, by omega, by go_num, blk_far (blk_drew (blk_far (blk_drew RO.out) (p := ⟨g3, 2, none⟩) n23 _)) (p := ⟨g3, 3, none⟩) n23 _, blk_put (blk_drew (blk_put (blk_drew RX.out) 2 _ rfl)) 3 _ (by rw [E1.out, E2.out]; rfl), Below.setCell (p := ⟨g3, 3, none⟩) (below_drew (Below.setCell (p := ⟨g3, 2, none⟩) (below_drew HB.out) l3 _)) l3 _⟩
            case measure => simp [intOf]
      · have xa := blk_cell RX.out 2
        have xb := blk_cell RX.out 3
        simp only [List.getElem?_toArray, List.getElem?_cons_zero, List.getElem?_cons_succ] at xa xb
        have ga := HGG.out 5 (by omega)
        have E1 := Aside0.mk (show Go.bits .or .u32 (sum4 (qlo g 4) 1) (g 5 % 256 * 256) = sum4 (qlo g 4) 2 from s4_1 (qlo g 4) (HLO.out 4 0 (by omega)) (HLO.out 4 1 (by omega)))
        have E2 := Aside0.mk (show Go.bits .or .u32 (sum4 (qhi g 4) 1) (g 5 / 256 * 256) = sum4 (qhi g 4) 2 from s4_1 (qhi g 4) (HHI.out 4 0 (by omega)) (HHI.out 4 1 (by omega)))
        go_upto_region 7 with (fail)
        go_region
        all_goals
          go_upto_region 8 with (fail)
          go_region
          all_goals
            clear i0 i1 i2 i3 i4 i5 i6 i7 p0 p1 p2 p3 p4 p5 p6 p7
            go_wp2
            go_roundw
            case rel => exact ⟨6, by omega, by go_num, blk_far (blk_drew (blk_far (blk_drew RO.out) (p := ⟨g3, 2, none⟩) n23 _)) (p := ⟨g3, 3, none⟩) n23 _, blk_put (blk_drew (blk_put (blk_drew RX.out) 2 _ rfl)) 3 _ (by rw [E1.out, E2.out]; rfl), Below.setCell (p := ⟨g3, 3, none⟩) (below_drew (Below.setCell (p := ⟨g3, 2, none⟩) (below_drew HB.out) l3 _)) l3 _⟩
            case measure => simp [intOf]
      · have xa := blk_cell RX.out 2
        have xb := blk_cell RX.out 3
        simp only [List.getElem?_toArray, List.getElem?_cons_zero, List.getElem?_cons_succ] at xa xb
        have ga := HGG.out 6 (by omega)
        have E1 := Aside0.mk (show Go.bits .or .u32 (sum4 (qlo g 4) 2) (g 6 % 256 * 65536) = sum4 (qlo g 4) 3 from s4_2 (qlo g 4) (HLO.out 4 0 (by omega)) (HLO.out 4 1 (by omega)) (HLO.out 4 2 (by omega)))
        have E2 := Aside0.mk (show Go.bits .or .u32 (sum4 (qhi g 4) 2) (g 6 / 256 * 65536) = sum4 (qhi g 4) 3 from s4_2 (qhi g 4) (HHI.out 4 0 (by omega)) (HHI.out 4 1 (by omega)) (HHI.out 4 2 (by omega)))
        go_upto_region 7 with (fail)
        go_region
        all_goals
          go_upto_region 8 with (fail)
          go_region
          all_goals
            clear i0 i1 i2 i3 i4 i5 i6 i7 p0 p1 p2 p3 p4 p5 p6 p7
            go_wp2
            go_roundw
            case rel => exact ⟨7, by omega, by go_num, blk_far (blk_drew (blk_far (blk_drew RO.out) (p := ⟨g3, 2, none⟩) n23 _)) (p := ⟨g3, 3, none⟩) n23 _, blk_put (blk_drew (blk_put (blk_drew RX.out) 2 _ rfl)) 3 _ (by rw [E1.out, E2.out]; rfl), Below.setCell (p := ⟨g3, 3, none⟩) (below_drew (Below.setCell (p := ⟨g3, 2, none⟩) (below_drew HB.out) l3 _)) l3 _⟩
            case measure => simp [intOf]
      · have xa := blk_cell RX.out 2
        have xb := blk_cell RX.out 3
        simp only [List.getElem?_toArray, List.getElem?_cons_zero, List.getElem?_cons_succ] at xa xb
        have ga := HGG.out 7 (by omega)
        have E1 := Aside0.mk (show Go.bits .or .u32 (sum4 (qlo g 4) 3) (g 7 % 256 * 16777216) = sum4 (qlo g 4) 4 from s4_3 (qlo g 4) (HLO.out 4 0 (by omega)) (HLO.out 4 1 (by omega)) (HLO.out 4 2 (by omega)) (HLO.out 4 3 (by omega)))
        have E2 := Aside0.mk (show Go.bits .or .u32 (sum4 (qhi g 4) 3) (g 7 / 256 * 16777216) = sum4 (qhi g 4) 4 from s4_3 (qhi g 4) (HHI.out 4 0 (by omega)) (HHI.out 4 1 (by omega)) (HHI.out 4 2 (by omega)) (HHI.out 4 3 (by omega)))
        go_upto_region 7 with (fail)
        go_region
        all_goals
          go_upto_region 8 with (fail)
          go_region
          all_goals
            clear i0 i1 i2 i3 i4 i5 i6 i7 p0 p1 p2 p3 p4 p5 p6 p7
            go_wp2
            go_roundw
            case rel => exact ⟨8, by omega, by go_num, blk_far (blk_drew (blk_far (blk_drew RO.out) (p := ⟨g3, 2, none⟩) n23 _)) (p := ⟨g3, 3, none⟩) n23 _, blk_put (blk_drew (blk_put (blk_drew RX.out) 2 _ rfl)) 3 _ (by rw [E1.out, E2.out]; rfl), Below.setCell (p := ⟨g3, 3, none⟩) (below_drew (Below.setCell (p := ⟨g3, 2, none⟩) (below_drew HB.out) l3 _)) l3 _⟩
            case measure => simp [intOf]
    · obtain rfl : j = 8 := by omega
      have XO := And.intro (blk_cell RX.out 0) (And.intro (blk_cell RX.out 1) (And.intro (blk_cell RX.out 2) (blk_cell RX.out 3)))
      have YO := And.intro (blk_cell RO.out 0) (And.intro (blk_cell RO.out 1) (And.intro (blk_cell RO.out 2) (blk_cell RO.out 3)))
      have yf := blk_frozen RO.out
      simp only [List.getElem?_toArray, List.getElem?_cons_zero, List.getElem?_cons_succ] at XO YO
      obtain ⟨x0, x1, x2, x3⟩ := XO
      obtain ⟨y0, y1, y2, y3⟩ := YO
      go_wp2
      have r0 := blk_put RO.out 0 (.int .u32 (sum4 (qlo g 0) (min 8 4))) (show _ = #[.int .u32 (sum4 (qlo g 0) (min 8 4)), .int .u32 0, .int .u32 0, .int .u32 0] from rfl)
      have r1 := blk_put r0 1 (.int .u32 (sum4 (qhi g 0) (min 8 4))) (show _ = #[.int .u32 (sum4 (qlo g 0) (min 8 4)), .int .u32 (sum4 (qhi g 0) (min 8 4)), .int .u32 0, .int .u32 0] from rfl)
      have r2 := blk_put r1 2 (.int .u32 (sum4 (qlo g 4) (8 - 4))) (show _ = #[.int .u32 (sum4 (qlo g 0) (min 8 4)), .int .u32 (sum4 (qhi g 0) (min 8 4)), .int .u32 (sum4 (qlo g 4) (8 - 4)), .int .u32 0] from rfl)
      have r3 := blk_put r2 3 (.int .u32 (sum4 (qhi g 4) (8 - 4))) (show _ = quaC g 8 from rfl)
      exact bodyPost_ret (results_cell_row rfl _ _ g2 56 _ (0, 0) _ rfl r3 Tryd.underlying56 rfl (by kernel_rfl)) rfl ⟨rfl, Below.setCell (p := ⟨g2, 3, none⟩) (Below.setCell (p := ⟨g2, 2, none⟩) (Below.setCell (p := ⟨g2, 1, none⟩) (Below.setCell (p := ⟨g2, 0, none⟩) HB.out l2 _) l2 _) l2 _) l2 _⟩
namespace H
attribute [local go_sem] max2_int min2_int max_two min_two max_three min_three max_four min_four
attribute [local go_sem high] eqA52
def block_Block_Empty.f (a0_0 : Int) (a0_1 : Int) (a0_2 : Int) (a0_3 : Int) (a0_4 : Int) (a0_5 : Int) (a0_6 : Int) (a0_7 : Int) : Option (Bool) := some (a0_0 == 0 && (a0_1 == 0 && (a0_2 == 0 && (a0_3 == 0 && (a0_4 == 0 && (a0_5 == 0 && (a0_6 == 0 && (a0_7 == 0))))))))
theorem block_Block_Empty.calls (a0_0 : Int) (a0_1 : Int) (a0_2 : Int) (a0_3 : Int) (a0_4 : Int) (a0_5 : Int) (a0_6 : Int) (a0_7 : Int) (r : Bool) (w : World) (h : block_Block_Empty.f a0_0 a0_1 a0_2 a0_3 a0_4 a0_5 a0_6 a0_7 = some r) :
  Calls Tryd.prog 26 #[.agg #[.int .u16 a0_0, .int .u16 a0_1, .int .u16 a0_2, .int .u16 a0_3, .int .u16 a0_4, .int .u16 a0_5, .int .u16 a0_6, .int .u16 a0_7]] w fun e w' => e = .returned (.bool r) ∧ Below w.heap.size w w' := by
 have hu52 := Tryd.underlying52
 have HB := Aside0.mk (Below.refl w.heap.size w)
 have H : (some (a0_0 == 0 && (a0_1 == 0 && (a0_2 == 0 && (a0_3 == 0 && (a0_4 == 0 && (a0_5 == 0 && (a0_6 == 0 && (a0_7 == 0))))))))) = some r := h
 clear h
 obtain rfl := Option.some.inj H
 go_enter Tryd.func26, Tryd.ntmps26
 go_wp2_with (first | ((with_reducible refine gate_dst (N := 1) rfl ?_); refine box_event ?hg (N := 1) ?hd (cs := #[.int .u16 a0_0, .int .u16 a0_1, .int .u16 a0_2, .int .u16 a0_3, .int .u16 a0_4, .int .u16 a0_5, .int .u16 a0_6, .int .u16 a0_7]) (t := 52) ?hr ?_; (case hd => rfl); (case hg => rfl); (case hr => first | (go_simp; done) | (go_simp; rfl)); intro gb142 hg w2 hbox hb; have n0_ := Aside0.mk (below_step (by repeat (first | (with_reducible first | exact HB.out | apply ba_ | apply bn_ | apply bd_) | exact HB.out)) hb); have n1_ := Aside0.mk (hbox); have n2_ := Aside0.mk ((by rw [hg]; exact (below_size (by repeat (first | (with_reducible first | exact HB.out | apply ba_ | apply bn_ | apply bd_) | exact HB.out))) : w.heap.size ≤ gb142)); have n3_ := Aside0.mk ((by rw [hg]; exact (below_size (by repeat (first | (with_reducible first | exact HB.out | apply ba_ | apply bn_ | apply bd_) | exact HB.out))) : w.heap.size ≤ gb142)); clear HB; have HB := n0_; have BK142 := n1_; have GW142 := n2_; have GE142 := n3_; clear n0_ n1_ n2_ n3_; clear hb hbox hg; have hcz3_0 : w2.cell? ⟨gb142, 0, none⟩ = some (.int .u16 a0_0) := (blk_cell BK142.out 0).trans rfl; have hcz3_1 : w2.cell? ⟨gb142, 1, none⟩ = some (.int .u16 a0_1) := (blk_cell BK142.out 1).trans rfl; have hcz3_2 : w2.cell? ⟨gb142, 2, none⟩ = some (.int .u16 a0_2) := (blk_cell BK142.out 2).trans rfl; have hcz3_3 : w2.cell? ⟨gb142, 3, none⟩ = some (.int .u16 a0_3) := (blk_cell BK142.out 3).trans rfl; have hcz3_4 : w2.cell? ⟨gb142, 4, none⟩ = some (.int .u16 a0_4) := (blk_cell BK142.out 4).trans rfl; have hcz3_5 : w2.cell? ⟨gb142, 5, none⟩ = some (.int .u16 a0_5) := (blk_cell BK142.out 5).trans rfl; have hcz3_6 : w2.cell? ⟨gb142, 6, none⟩ = some (.int .u16 a0_6) := (blk_cell BK142.out 6).trans rfl; have hcz3_7 : w2.cell? ⟨gb142, 7, none⟩ = some (.int .u16 a0_7) := (blk_cell BK142.out 7).trans rfl; have hfz3_0 := blk_frozen BK142.out 0; have hfz3_1 := blk_frozen BK142.out 1; have hfz3_2 := blk_frozen BK142.out 2; have hfz3_3 := blk_frozen BK142.out 3; have hfz3_4 := blk_frozen BK142.out 4; have hfz3_5 := blk_frozen BK142.out 5; have hfz3_6 := blk_frozen BK142.out 6; have hfz3_7 := blk_frozen BK142.out 7))
 go_ret
 exact ⟨by first | rfl | (simp [errW_none, errW_some] <;> rfl) | (simp [*, errW_none, errW_some] <;> rfl), by repeat (first | (with_reducible first | exact HB.out | apply ba_ | apply bn_ | apply bd_ | refine below_set ?_ GE142.out) | exact HB.out)⟩
end H
theorem cell9_mem (x a b : Int) (i : Nat) (c : CL) : c ∈ cell9 x a b i ↔ (c.f0.f0 = a + ((i % 4 : Nat) : Int) ∧ c.f0.f1 = b + ((i / 4 : Nat) : Int)) ∧ ((c.f1 = 0 ∧ x / 2 ^ (2 * i) % 4 % 2 = 1) ∨ (c.f1 = 1 ∧ x / 2 ^ (2 * i) % 4 / 2 % 2 = 1)) := by
  have hh : ∀ h, c = mk (a + ((i % 4 : Nat) : Int)) (b + ((i / 4 : Nat) : Int)) h ↔ (c.f0.f0 = a + ((i % 4 : Nat) : Int) ∧ c.f0.f1 = b + ((i / 4 : Nat) : Int)) ∧ c.f1 = h := by
    intro h
    constructor
    · rintro rfl; exact ⟨⟨rfl, rfl⟩, rfl⟩
    · rintro ⟨⟨e1, e2⟩, e3⟩; exact cl_ext e1 e2 e3
  unfold cell9
  rw [List.mem_append]
  constructor
  · rintro (h | h)
    · split at h
      · next hb =>
        obtain ⟨e, e3⟩ := (hh 0).1 (List.mem_singleton.1 h)
        exact ⟨e, .inl ⟨e3, hb⟩⟩
      · cases h
    · split at h
      · next hb =>
        obtain ⟨e, e3⟩ := (hh 1).1 (List.mem_singleton.1 h)
        exact ⟨e, .inr ⟨e3, hb⟩⟩
      · cases h
  · rintro ⟨e, ⟨e3, hb⟩ | ⟨e3, hb⟩⟩
    · left; rw [if_pos hb]; exact List.mem_singleton.2 ((hh 0).2 ⟨e, e3⟩)
    · right; rw [if_pos hb]; exact List.mem_singleton.2 ((hh 1).2 ⟨e, e3⟩)
/-- does a cell of a block live? -/
def inB (g : Nat → Int) (lat : Int) (c : CL) : Prop := (0 ≤ c.f0.f0 ∧ c.f0.f0 < 8) ∧ (0 ≤ c.f0.f1 ∧ c.f0.f1 < 8) ∧ (lat > 1 ∨ c.f1 = 0) ∧ ((c.f1 = 0 ∧ stB g c.f0.f0 c.f0.f1 % 2 = 1) ∨ (c.f1 = 1 ∧ stB g c.f0.f0 c.f0.f1 / 2 % 2 = 1))
theorem lf_at (l0 l1 l2 l3 : Int) (a b : Nat) (ha : a < 8) (hb : b < 8) : lfQ l0 l1 l2 l3 a b = leafAt l0 l1 l2 l3 (b / 4 * 2 + a / 4) := by
  unfold lfQ leafAt
  by_cases h1 : b < 4 <;> by_cases h2 : a < 4
  · rw [if_pos h1, if_pos h2, if_pos (by omega)]
  · rw [if_pos h1, if_neg h2, if_neg (by omega), if_pos (by omega)]
  · rw [if_neg h1, if_pos h2, if_neg (by omega), if_neg (by omega), if_pos (by omega)]
  · rw [if_neg h1, if_neg h2, if_neg (by omega), if_neg (by omega), if_neg (by omega)]
theorem cells10_mem (lat l0 l1 l2 l3 : Int) (h0 : 0 ≤ l0) (h1 : 0 ≤ l1) (h2 : 0 ≤ l2) (h3 : 0 ≤ l3) (c : CL) : c ∈ cells10L lat l0 l1 l2 l3 4 ↔ inB (ofG l0 l1 l2 l3) lat c := by
  unfold cells10L inB
  simp only [List.mem_flatMap, List.mem_range, List.mem_filter, keepL, decide_eq_true_eq]
  unfold cells9L
  simp only [List.mem_flatMap, List.mem_range]
  constructor
  · rintro ⟨m, hm, ⟨i, hi, hc⟩, hk⟩
    obtain ⟨⟨e1, e2⟩, hb⟩ := (cell9_mem _ _ _ _ _).1 hc
    have ea : c.f0.f0 = ((m % 2 * 4 + i % 4 : Nat) : Int) := by rw [e1]; omega
    have eb : c.f0.f1 = ((m / 2 * 4 + i / 4 : Nat) : Int) := by rw [e2]; omega
    have es : stB (ofG l0 l1 l2 l3) c.f0.f0 c.f0.f1 = leafAt l0 l1 l2 l3 m / 2 ^ (2 * i) % 4 := by
      rw [ea, eb, stB_of _ _ _ _ h0 h1 h2 h3 _ _ (by omega) (by omega), lf_at _ _ _ _ _ _ (by omega) (by omega), show (m / 2 * 4 + i / 4) / 4 * 2 + (m % 2 * 4 + i % 4) / 4 = m by omega, show 8 * ((m / 2 * 4 + i / 4) % 4) + 2 * ((m % 2 * 4 + i % 4) % 4) = 2 * i by omega]
    rw [es]
    exact ⟨by omega, by omega, hk, hb⟩
  · rintro ⟨ha, hb, hk, hs⟩
    obtain ⟨a, ea⟩ := Int.eq_ofNat_of_zero_le ha.1
    obtain ⟨b, eb⟩ := Int.eq_ofNat_of_zero_le hb.1
    refine ⟨b / 4 * 2 + a / 4, by omega, ⟨4 * (b % 4) + a % 4, by omega, ?_⟩, hk⟩
    have es : stB (ofG l0 l1 l2 l3) c.f0.f0 c.f0.f1 = leafAt l0 l1 l2 l3 (b / 4 * 2 + a / 4) / 2 ^ (2 * (4 * (b % 4) + a % 4)) % 4 := by
      rw [ea, eb, stB_of _ _ _ _ h0 h1 h2 h3 _ _ (by omega) (by omega), lf_at _ _ _ _ _ _ (by omega) (by omega), show 8 * (b % 4) + 2 * (a % 4) = 2 * (4 * (b % 4) + a % 4) by omega]
    rw [es] at hs
    exact (cell9_mem _ _ _ _ _).2 ⟨⟨by omega, by omega⟩, hs⟩
theorem stS_of (g : Nat → Int) (S : List CL) (hS : ∀ c, c ∈ S ↔ inB g 2 c) (x y : Int) (hx : 0 ≤ x ∧ x < 8) (hy : 0 ≤ y ∧ y < 8) : stS S x y = stB g x y := by
  have h := show 0 ≤ stB g x y ∧ stB g x y ≤ 3 from stB_bd g x y
  have m0 : mk x y 0 ∈ S ↔ stB g x y % 2 = 1 := by
    rw [hS]
    constructor
    · rintro ⟨_, _, _, ⟨_, e⟩ | ⟨e, _⟩⟩
      · exact e
      · exact absurd e (by simp [mk])
    · intro e; exact ⟨hx, hy, .inl (by omega), .inl ⟨rfl, e⟩⟩
  have m1 : mk x y 1 ∈ S ↔ stB g x y / 2 % 2 = 1 := by
    rw [hS]
    constructor
    · rintro ⟨_, _, _, ⟨e, _⟩ | ⟨_, e⟩⟩
      · exact absurd e (by simp [mk])
      · exact e
    · intro e; exact ⟨hx, hy, .inl (by omega), .inr ⟨rfl, e⟩⟩
  unfold stS
  by_cases c0 : stB g x y % 2 = 1 <;> by_cases c1 : stB g x y / 2 % 2 = 1
  · rw [if_pos (m0.2 c0), if_pos (m1.2 c1)]; omega
  · rw [if_pos (m0.2 c0), if_neg (fun e => c1 (m1.1 e))]; omega
  · rw [if_neg (fun e => c0 (m0.1 e)), if_pos (m1.2 c1)]; omega
  · rw [if_neg (fun e => c0 (m0.1 e)), if_neg (fun e => c1 (m1.1 e))]; omega
theorem horL_congr (f f' : Nat → Int) (n : Nat) (h : ∀ i, i < n → f i = f' i) : horL f n = horL f' n := by
  induction n with
  | zero => rfl
  | succ n ih => rw [horL, horL, ih (fun i hi => h i (by omega)), h n (by omega)]
theorem stB_lit (g : Nat → Int) (a b : Nat) (ha : a < 8) (hb : b < 8) : stB g (a : Int) (b : Int) = g b / 2 ^ (2 * a) % 4 := by
  unfold stB
  rw [if_neg (by omega), show ((b : Nat) : Int).toNat = b from Int.toNat_natCast b, show (2 * (a : Int)).toNat = 2 * a by omega]
/-- four rows of four points of a block -/
theorem horL_rows (g : Nat → Int) (a b : Nat) (ha : a + 4 ≤ 8) (hb : b + 4 ≤ 8) : horL (fun i => stB g ((a : Int) + ((i % 4 : Nat) : Int)) ((b : Int) + ((i / 4 : Nat) : Int))) 16 = g b / 2 ^ (2 * a) % 256 + 256 * (g (b + 1) / 2 ^ (2 * a) % 256) + 65536 * (g (b + 2) / 2 ^ (2 * a) % 256) + 16777216 * (g (b + 3) / 2 ^ (2 * a) % 256) := by
  have hc := horL_congr (fun i => stB g ((a : Int) + ((i % 4 : Nat) : Int)) ((b : Int) + ((i / 4 : Nat) : Int))) (fun i => g (b + i / 4) / 2 ^ (2 * a) / 4 ^ (i % 4) % 4) 16 (fun i hi => by
    show stB g ((a : Int) + ((i % 4 : Nat) : Int)) ((b : Int) + ((i / 4 : Nat) : Int)) = g (b + i / 4) / 2 ^ (2 * a) / 4 ^ (i % 4) % 4
    rw [show (a : Int) + ((i % 4 : Nat) : Int) = ((a + i % 4 : Nat) : Int) by omega, show (b : Int) + ((i / 4 : Nat) : Int) = ((b + i / 4 : Nat) : Int) by omega, stB_lit g _ _ (by omega) (by omega), show 2 * (a + i % 4) = 2 * a + 2 * (i % 4) by omega, Int.pow_add, ← Int.ediv_ediv_of_nonneg (Int.le_of_lt (Int.pow_pos (by decide))), show (2 : Int) ^ (2 * (i % 4)) = 4 ^ (i % 4) by rw [Int.pow_mul]; rfl])
  rw [hc]
  simp only [horL, Nat.reduceMod, Nat.reduceDiv, Nat.add_zero, Int.reducePow]
  generalize g b / 2 ^ (2 * a) = r0
  generalize g (b + 1) / 2 ^ (2 * a) = r1
  generalize g (b + 2) / 2 ^ (2 * a) = r2
  generalize g (b + 3) / 2 ^ (2 * a) = r3
  omega
theorem mid_hor (g : Nat → Int) : midF g 4 = horL (fun i => stB g (2 + ((i % 4 : Nat) : Int)) (2 + ((i / 4 : Nat) : Int))) 16 := by
  have h := horL_rows g 2 2 (by omega) (by omega)
  have e : ((2 : Nat) : Int) = 2 := rfl
  rw [e] at h
  rw [h]
  simp [midF, sum4, midB]
/-- the leaf of the middle, by the document -/
theorem mid_leaf (g : Nat → Int) (S : List CL) (hS : ∀ c, c ∈ S ↔ inB g 2 c) : leafF S 2 2 = midF g 4 := by
  rw [mid_hor]
  unfold leafF
  exact horL_congr _ _ 16 (fun i hi => stS_of g S hS _ _ (by omega) (by omega))
theorem qua_of (l0 l1 l2 l3 : Int) (h0 : 0 ≤ l0 ∧ l0 < 4294967296) (h1 : 0 ≤ l1 ∧ l1 < 4294967296) (h2 : 0 ≤ l2 ∧ l2 < 4294967296) (h3 : 0 ≤ l3 ∧ l3 < 4294967296) : quaC (ofG l0 l1 l2 l3) 8 = #[.int .u32 l0, .int .u32 l1, .int .u32 l2, .int .u32 l3] := by
  have e0 : sum4 (qlo (ofG l0 l1 l2 l3) 0) (min 8 4) = l0 := by simp [sum4, qlo, ofG, ofRow]; omega
  have e1 : sum4 (qhi (ofG l0 l1 l2 l3) 0) (min 8 4) = l1 := by simp [sum4, qhi, ofG, ofRow]; omega
  have e2 : sum4 (qlo (ofG l0 l1 l2 l3) 4) (8 - 4) = l2 := by simp [sum4, qlo, ofG, ofRow]; omega
  have e3 : sum4 (qhi (ofG l0 l1 l2 l3) 4) (8 - 4) = l3 := by simp [sum4, qhi, ofG, ofRow]; omega
  show #[_, _, _, _] = _
  rw [e0, e1, e2, e3]
theorem or0 (a b : Int) (ha : 0 ≤ a ∧ a < 4294967296) (hb : 0 ≤ b ∧ b < 4294967296) : (0 ≤ Go.bits .or .u32 a b ∧ Go.bits .or .u32 a b < 4294967296) ∧ (Go.bits .or .u32 a b = 0 ↔ a = 0 ∧ b = 0) := by
  rw [Go.u32_or a b ha.1 ha.2 hb.1 hb.2]
  have h1 : a.toNat ||| b.toNat < 2 ^ 32 := Nat.or_lt_two_pow (by omega) (by omega)
  refine ⟨⟨by omega, by omega⟩, ?_⟩
  have h2 : a.toNat ||| b.toNat = 0 ↔ a.toNat = 0 ∧ b.toNat = 0 := Nat.or_eq_zero_iff
  constructor
  · intro h
    have := h2.1 (by omega)
    omega
  · rintro ⟨rfl, rfl⟩
    rfl
def noneQ (l0 l1 l2 l3 : Int) : Bool := decide (l0 = 0 ∧ l1 = 0 ∧ l2 = 0 ∧ l3 = 0)
theorem none_or (l0 l1 l2 l3 : Int) (h0 : 0 ≤ l0 ∧ l0 < 4294967296) (h1 : 0 ≤ l1 ∧ l1 < 4294967296) (h2 : 0 ≤ l2 ∧ l2 < 4294967296) (h3 : 0 ≤ l3 ∧ l3 < 4294967296) : (Go.bits .or .u32 (Go.bits .or .u32 (Go.bits .or .u32 l0 l1) l2) l3 == 0) = noneQ l0 l1 l2 l3 := by
  obtain ⟨b1, e1⟩ := or0 l0 l1 h0 h1
  obtain ⟨b2, e2⟩ := or0 _ l2 b1 h2
  obtain ⟨b3, e3⟩ := or0 _ l3 b2 h3
  unfold noneQ
  rw [Bool.eq_iff_iff, beq_iff_eq, decide_eq_true_eq, e3, e2, e1, and_assoc, and_assoc]
theorem empty_of (l0 l1 l2 l3 : Int) (h0 : 0 ≤ l0 ∧ l0 < 4294967296) (h1 : 0 ≤ l1 ∧ l1 < 4294967296) (h2 : 0 ≤ l2 ∧ l2 < 4294967296) (h3 : 0 ≤ l3 ∧ l3 < 4294967296) : block_Block_Empty.f (ofG l0 l1 l2 l3 0) (ofG l0 l1 l2 l3 1) (ofG l0 l1 l2 l3 2) (ofG l0 l1 l2 l3 3) (ofG l0 l1 l2 l3 4) (ofG l0 l1 l2 l3 5) (ofG l0 l1 l2 l3 6) (ofG l0 l1 l2 l3 7) = some (noneQ l0 l1 l2 l3) := by
  unfold block_Block_Empty.f noneQ
  congr 1
  rw [Bool.eq_iff_iff]
  simp only [Bool.and_eq_true, beq_iff_eq, decide_eq_true_eq]
  simp [ofG, ofRow]
  omega
namespace H
attribute [local go_sem] max2_int min2_int max_two min_two max_three min_three max_four min_four
def table_most.f (a0 : Int) : Option (Int) := if a0 = 1 then (some 63) else (if a0 = 2 then (some 3) else (some 12))
theorem table_most.calls (a0 : Int) (r : Int) (w : World) (h : table_most.f a0 = some r) :
  Calls Tryd.prog 62 #[.int .i64 a0] w fun e w' => e = .returned (.int .i64 r) ∧ Drawn0 w w' := by
 have H : (if a0 = 1 then (some 63) else (if a0 = 2 then (some 3) else (some 12))) = some r := h
 clear h
 by_cases c2 : a0 = 1
 ·
  rw [if_pos c2] at H
  have c2b0 : (a0 == 1) = true := beq_iff_eq.mpr c2
  have c2b1 : (a0 != 1) = false := bne_eq_false_iff_eq.mpr c2
  clear c2
  obtain rfl := Option.some.inj H
  go_enter Tryd.func62, Tryd.ntmps62
  go_wp2
  go_ret
  exact ⟨by first | rfl | (simp; done) | (simp [*]; done), by repeat (first | exact Drawn0.refl _ | apply Drawn0.step)⟩
 ·
  rw [if_neg c2] at H
  have c2b0 : (a0 == 1) = false := beq_eq_false_iff_ne.mpr c2
  have c2b1 : (a0 != 1) = true := bne_iff_ne.mpr c2
  by_cases c3 : a0 = 2
  ·
   rw [if_pos c3] at H
   have c3b0 : (a0 == 2) = true := beq_iff_eq.mpr c3
   have c3b1 : (a0 != 2) = false := bne_eq_false_iff_eq.mpr c3
   clear c3
   obtain rfl := Option.some.inj H
   go_enter Tryd.func62, Tryd.ntmps62
   go_wp2
   go_ret
   exact ⟨by first | rfl | (simp; done) | (simp [*]; done), by repeat (first | exact Drawn0.refl _ | apply Drawn0.step)⟩
  ·
   rw [if_neg c3] at H
   have c3b0 : (a0 == 2) = false := beq_eq_false_iff_ne.mpr c3
   have c3b1 : (a0 != 2) = true := bne_iff_ne.mpr c3
   obtain rfl := Option.some.inj H
   go_enter Tryd.func62, Tryd.ntmps62
   go_wp2
   go_ret
   exact ⟨by first | rfl | (simp; done) | (simp [*]; done), by repeat (first | exact Drawn0.refl _ | apply Drawn0.step)⟩
end H
theorem tgood (l : Int) (w : World) : Calls Tryd.prog 61 #[.int .i64 l] w fun e w' => e = .returned (.bool (decide (1 ≤ l ∧ l ≤ 3))) ∧ Below w.heap.size w w' :=
  (lgood_any l w).mono fun _ _ h => ⟨h.1, h.2 ▸ Below.refl _ _⟩
theorem thalves (l : Int) (w : World) : Calls Tryd.prog 49 #[.int .i64 l] w fun e w' => e = .returned (.int .i64 (halvesR l)) ∧ Below w.heap.size w w' :=
  (halves_any l w).mono fun _ _ h => ⟨h.1, h.2 ▸ Below.refl _ _⟩
theorem tmost (l m : Int) (h : table_most.f l = some m) (w : World) : Calls Tryd.prog 62 #[.int .i64 l] w fun e w' => e = .returned (.int .i64 m) ∧ Below w.heap.size w w' :=
  (table_most.calls l m w h).mono fun _ _ h => ⟨h.1, h.2.below⟩
theorem tcheck_bad (l b0 b1 s0 s1 : Int) (w : World) (hl : ¬ (1 ≤ l ∧ l ≤ 3)) :
    Calls Tryd.prog 42 #[.agg #[.int .i64 l, .int .u64 b0, .int .u64 b1, .int .u64 s0, .int .u64 s1]] w fun e w' => e = .returned (errW (some 11)) ∧ Below w.heap.size w w' := by
  have hg := fun W => tgood l W
  rw [decide_eq_false hl] at hg
  go_enter Tryd.func42, Tryd.ntmps42
  go_wp2_with fail
  obtain ⟨w1, hw1, hcc, hsz, hB1⟩ := one_new w #[.int .i64 l, .int .u64 b0, .int .u64 b1, .int .u64 s0, .int .u64 s1] 32
  rw [← hw1]
  have HB1 := Aside0.mk hB1
  clear hw1 hcc
  refine (hg _).mono ?_
  rintro e w2 ⟨rfl, hb⟩
  have HB := Aside0.mk (HB1.out.trans (hb.mono (by omega)))
  clear hb hB1
  go_wp2
  go_ret
  exact ⟨rfl, HB.out⟩
def badH (b s out : Int) : Bool := (Go.bits .and .u64 b (Go.bits .or .u64 out 1) != 0) || (Go.bits .and .u64 s out != 0)
theorem tcheck_1 (b0 b1 s0 s1 : Int) (w : World) (X : Option Int) (hX : X = if (badH b0 s0 0 || badH b1 s1 18446744073709551615) = true then some 5 else none) :
    Calls Tryd.prog 42 #[.agg #[.int .i64 1, .int .u64 b0, .int .u64 b1, .int .u64 s0, .int .u64 s1]] w fun e w' => e = .returned (errW X) ∧ Below w.heap.size w w' := by
  have HX := Aside0.mk hX
  clear hX
  have hg := fun W => tgood 1 W
  have hm := fun W => tmost 1 63 rfl W
  have hh := fun W => thalves 1 W
  rw [decide_eq_true (by decide)] at hg
  rw [show halvesR 1 = 1 from rfl] at hh
  go_enter Tryd.func42, Tryd.ntmps42
  go_wp2_with fail
  obtain ⟨w1, hw1, hcc, hsz, hB1⟩ := one_new w #[.int .i64 1, .int .u64 b0, .int .u64 b1, .int .u64 s0, .int .u64 s1] 32
  rw [← hw1]
  have y0 : w1.cell? ⟨w.heap.size, 0, none⟩ = some (.int .i64 1) := hcc 0 _ rfl
  have y1 : w1.cell? ⟨w.heap.size, 1, none⟩ = some (.int .u64 b0) := hcc 1 _ rfl
  have y2 : w1.cell? ⟨w.heap.size, 2, none⟩ = some (.int .u64 b1) := hcc 2 _ rfl
  have y3 : w1.cell? ⟨w.heap.size, 3, none⟩ = some (.int .u64 s0) := hcc 3 _ rfl
  have y4 : w1.cell? ⟨w.heap.size, 4, none⟩ = some (.int .u64 s1) := hcc 4 _ rfl
  have HB1 := Aside0.mk hB1
  clear hw1 hcc hB1
  refine (hg _).mono ?_
  rintro e w2 ⟨rfl, hb⟩
  have y0 := pw_cell_below hb y0
  have y1 := pw_cell_below hb y1
  have y2 := pw_cell_below hb y2
  have y3 := pw_cell_below hb y3
  have y4 := pw_cell_below hb y4
  have HB := Aside0.mk (HB1.out.trans (hb.mono (by omega)))
  clear hb
  go_wp2_with fail
  refine (hm _).mono ?_
  rintro e w3 ⟨rfl, hb⟩
  have y0 := pw_cell_below hb y0
  have y1 := pw_cell_below hb y1
  have y2 := pw_cell_below hb y2
  have y3 := pw_cell_below hb y3
  have y4 := pw_cell_below hb y4
  have hz3 := hb.size
  have HB := Aside0.mk (HB.out.trans (hb.mono (by have := HB.out.size; omega)))
  clear hb
  go_wp2_with fail
  have Y0 := Aside0.mk y0
  have Y1 := Aside0.mk y1
  have Y2 := Aside0.mk y2
  have Y3 := Aside0.mk y3
  have Y4 := Aside0.mk y4
  clear y0 y1 y2 y3 y4
  have hzw := HB.out.size
  go_loopw [20] (fun i wr => ∃ j : Nat, j ≤ 2 ∧ i = .int .i64 j ∧ (0 < j → badH b0 s0 0 = false) ∧ (1 < j → badH b1 s1 18446744073709551615 = false) ∧ Below w3.heap.size w3 wr) (fun i _ => 2 - (intOf i).toNat)
  case atStart => exact ⟨0, by omega, rfl, fun h => absurd h (by omega), fun h => absurd h (by omega), Below.refl _ _⟩
  case round =>
    obtain ⟨j, hj, rfl, g0, g1, hb⟩ := hrel
    have G0 := Aside0.mk g0
    have G1 := Aside0.mk g1
    clear g0 g1
    have y0 := pw_cell_below hb Y0.out
    have y1 := pw_cell_below hb Y1.out
    have y2 := pw_cell_below hb Y2.out
    have y3 := pw_cell_below hb Y3.out
    have y4 := pw_cell_below hb Y4.out
    have HBR := Aside0.mk hb
    clear hb
    have hjj : j = 0 ∨ j = 1 ∨ j = 2 := by omega
    rcases hjj with rfl | rfl | rfl
    · go_wp2_with fail
      refine (hh _).mono ?_
      rintro e w4 ⟨rfl, hb⟩
      have z0 := pw_cell_below hb y0
      have z1 := pw_cell_below hb y1
      have z2 := pw_cell_below hb y2
      have z3 := pw_cell_below hb y3
      have z4 := pw_cell_below hb y4
      have hzr := HBR.out.size
      have HB4 := Aside0.mk (HBR.out.trans (hb.mono (by omega)))
      clear y0 y1 y2 y3 y4 hb
      go_wp2_with fail
      all_goals first
        | (go_roundw; (case rel => exact ⟨1, by omega, by first | rfl | go_num, fun _ => by simp [badH, *], fun h => absurd h (by omega), HB4.out⟩); (case measure => simp [intOf]))
        | (go_ret; refine ⟨?_, HB.out.trans (HB4.out.mono (by omega))⟩; rw [HX.out]; simp [badH, errW, *])
    · go_wp2_with fail
      refine (hh _).mono ?_
      rintro e w4 ⟨rfl, hb⟩
      have z0 := pw_cell_below hb y0
      have z1 := pw_cell_below hb y1
      have z2 := pw_cell_below hb y2
      have z3 := pw_cell_below hb y3
      have z4 := pw_cell_below hb y4
      have hzr := HBR.out.size
      have HB4 := Aside0.mk (HBR.out.trans (hb.mono (by omega)))
      clear y0 y1 y2 y3 y4 hb
      go_wp2_with fail
      all_goals first
        | (go_roundw; (case rel => exact ⟨2, by omega, by first | rfl | go_num, fun _ => G0.out (by omega), fun _ => by simp [badH, *], HB4.out⟩); (case measure => simp [intOf]))
        | (go_ret; refine ⟨?_, HB.out.trans (HB4.out.mono (by omega))⟩; rw [HX.out]; simp [badH, errW, *])
    · have r0 := G0.out (by omega)
      have r1 := G1.out (by omega)
      have hX : X = none := by rw [HX.out, r0, r1]; rfl
      subst hX
      clear y0 y1 y2 y3 y4
      go_wp2
      go_ret
      exact ⟨rfl, HB.out.trans (HBR.out.mono (by have := HB.out.size; omega))⟩
theorem tcheck_2 (b0 b1 s0 s1 : Int) (w : World) (X : Option Int) (hX : X = if (badH b0 s0 18446744073709551600 || badH b1 s1 18446744073709551600) = true then some 5 else none) :
    Calls Tryd.prog 42 #[.agg #[.int .i64 2, .int .u64 b0, .int .u64 b1, .int .u64 s0, .int .u64 s1]] w fun e w' => e = .returned (errW X) ∧ Below w.heap.size w w' := by
  have hwr : IntKind.u64.wrap 295147905179352825840 = 18446744073709551600 := by decide
  have HX := Aside0.mk hX
  clear hX
  have hg := fun W => tgood 2 W
  have hm := fun W => tmost 2 3 rfl W
  have hh := fun W => thalves 2 W
  rw [decide_eq_true (by decide)] at hg
  rw [show halvesR 2 = 2 from rfl] at hh
  go_enter Tryd.func42, Tryd.ntmps42
  go_wp2_with fail
  obtain ⟨w1, hw1, hcc, hsz, hB1⟩ := one_new w #[.int .i64 2, .int .u64 b0, .int .u64 b1, .int .u64 s0, .int .u64 s1] 32
  rw [← hw1]
  have y0 : w1.cell? ⟨w.heap.size, 0, none⟩ = some (.int .i64 2) := hcc 0 _ rfl
  have y1 : w1.cell? ⟨w.heap.size, 1, none⟩ = some (.int .u64 b0) := hcc 1 _ rfl
  have y2 : w1.cell? ⟨w.heap.size, 2, none⟩ = some (.int .u64 b1) := hcc 2 _ rfl
  have y3 : w1.cell? ⟨w.heap.size, 3, none⟩ = some (.int .u64 s0) := hcc 3 _ rfl
  have y4 : w1.cell? ⟨w.heap.size, 4, none⟩ = some (.int .u64 s1) := hcc 4 _ rfl
  have HB1 := Aside0.mk hB1
  clear hw1 hcc hB1
  refine (hg _).mono ?_
  rintro e w2 ⟨rfl, hb⟩
  have y0 := pw_cell_below hb y0
  have y1 := pw_cell_below hb y1
  have y2 := pw_cell_below hb y2
  have y3 := pw_cell_below hb y3
  have y4 := pw_cell_below hb y4
  have HB := Aside0.mk (HB1.out.trans (hb.mono (by omega)))
  clear hb
  go_wp2_with fail
  refine (hm _).mono ?_
  rintro e w3 ⟨rfl, hb⟩
  have y0 := pw_cell_below hb y0
  have y1 := pw_cell_below hb y1
  have y2 := pw_cell_below hb y2
  have y3 := pw_cell_below hb y3
  have y4 := pw_cell_below hb y4
  have hz3 := hb.size
  have HB := Aside0.mk (HB.out.trans (hb.mono (by have := HB.out.size; omega)))
  clear hb
  go_wp2_with fail
  have Y0 := Aside0.mk y0
  have Y1 := Aside0.mk y1
  have Y2 := Aside0.mk y2
  have Y3 := Aside0.mk y3
  have Y4 := Aside0.mk y4
  clear y0 y1 y2 y3 y4
  have hzw := HB.out.size
  go_loopw [20] (fun i wr => ∃ j : Nat, j ≤ 2 ∧ i = .int .i64 j ∧ (0 < j → badH b0 s0 18446744073709551600 = false) ∧ (1 < j → badH b1 s1 18446744073709551600 = false) ∧ Below w3.heap.size w3 wr) (fun i _ => 2 - (intOf i).toNat)
  case atStart => exact ⟨0, by omega, rfl, fun h => absurd h (by omega), fun h => absurd h (by omega), Below.refl _ _⟩
  case round =>
    obtain ⟨j, hj, rfl, g0, g1, hb⟩ := hrel
    have G0 := Aside0.mk g0
    have G1 := Aside0.mk g1
    clear g0 g1
    have y0 := pw_cell_below hb Y0.out
    have y1 := pw_cell_below hb Y1.out
    have y2 := pw_cell_below hb Y2.out
    have y3 := pw_cell_below hb Y3.out
    have y4 := pw_cell_below hb Y4.out
    have HBR := Aside0.mk hb
    clear hb
    have hjj : j = 0 ∨ j = 1 ∨ j = 2 := by omega
    rcases hjj with rfl | rfl | rfl
    · go_wp2_with fail
      refine (hh _).mono ?_
      rintro e w4 ⟨rfl, hb⟩
      have z0 := pw_cell_below hb y0
      have z1 := pw_cell_below hb y1
      have z2 := pw_cell_below hb y2
      have z3 := pw_cell_below hb y3
      have z4 := pw_cell_below hb y4
      have hzr := HBR.out.size
      have HB4 := Aside0.mk (HBR.out.trans (hb.mono (by omega)))
      clear y0 y1 y2 y3 y4 hb
      go_wp2_with fail
      all_goals first
        | (go_roundw; (case rel => exact ⟨1, by omega, by first | rfl | go_num, fun _ => by simp [badH, *], fun h => absurd h (by omega), HB4.out⟩); (case measure => simp [intOf]))
        | (go_ret; refine ⟨?_, HB.out.trans (HB4.out.mono (by omega))⟩; rw [HX.out]; simp [badH, errW, *])
    · go_wp2_with fail
      refine (hh _).mono ?_
      rintro e w4 ⟨rfl, hb⟩
      have z0 := pw_cell_below hb y0
      have z1 := pw_cell_below hb y1
      have z2 := pw_cell_below hb y2
      have z3 := pw_cell_below hb y3
      have z4 := pw_cell_below hb y4
      have hzr := HBR.out.size
      have HB4 := Aside0.mk (HBR.out.trans (hb.mono (by omega)))
      clear y0 y1 y2 y3 y4 hb
      go_wp2_with fail
      all_goals first
        | (go_roundw; (case rel => exact ⟨2, by omega, by first | rfl | go_num, fun _ => G0.out (by omega), fun _ => by simp [badH, *], HB4.out⟩); (case measure => simp [intOf]))
        | (go_ret; refine ⟨?_, HB.out.trans (HB4.out.mono (by omega))⟩; rw [HX.out]; simp [badH, errW, *])
    · have r0 := G0.out (by omega)
      have r1 := G1.out (by omega)
      have hX : X = none := by rw [HX.out, r0, r1]; rfl
      subst hX
      clear y0 y1 y2 y3 y4
      go_wp2
      go_ret
      exact ⟨rfl, HB.out.trans (HBR.out.mono (by have := HB.out.size; omega))⟩
theorem tcheck_3 (b0 b1 s0 s1 : Int) (w : World) (X : Option Int) (hX : X = if (badH b0 s0 18446744073709543424 || badH b1 s1 18446744073709543424) = true then some 5 else none) :
    Calls Tryd.prog 42 #[.agg #[.int .i64 3, .int .u64 b0, .int .u64 b1, .int .u64 s0, .int .u64 s1]] w fun e w' => e = .returned (errW X) ∧ Below w.heap.size w w' := by
  have hwr : IntKind.u64.wrap 151115727451828646830080 = 18446744073709543424 := by decide
  have HX := Aside0.mk hX
  clear hX
  have hg := fun W => tgood 3 W
  have hm := fun W => tmost 3 12 rfl W
  have hh := fun W => thalves 3 W
  rw [decide_eq_true (by decide)] at hg
  rw [show halvesR 3 = 2 from rfl] at hh
  go_enter Tryd.func42, Tryd.ntmps42
  go_wp2_with fail
  obtain ⟨w1, hw1, hcc, hsz, hB1⟩ := one_new w #[.int .i64 3, .int .u64 b0, .int .u64 b1, .int .u64 s0, .int .u64 s1] 32
  rw [← hw1]
  have y0 : w1.cell? ⟨w.heap.size, 0, none⟩ = some (.int .i64 3) := hcc 0 _ rfl
  have y1 : w1.cell? ⟨w.heap.size, 1, none⟩ = some (.int .u64 b0) := hcc 1 _ rfl
  have y2 : w1.cell? ⟨w.heap.size, 2, none⟩ = some (.int .u64 b1) := hcc 2 _ rfl
  have y3 : w1.cell? ⟨w.heap.size, 3, none⟩ = some (.int .u64 s0) := hcc 3 _ rfl
  have y4 : w1.cell? ⟨w.heap.size, 4, none⟩ = some (.int .u64 s1) := hcc 4 _ rfl
  have HB1 := Aside0.mk hB1
  clear hw1 hcc hB1
  refine (hg _).mono ?_
  rintro e w2 ⟨rfl, hb⟩
  have y0 := pw_cell_below hb y0
  have y1 := pw_cell_below hb y1
  have y2 := pw_cell_below hb y2
  have y3 := pw_cell_below hb y3
  have y4 := pw_cell_below hb y4
  have HB := Aside0.mk (HB1.out.trans (hb.mono (by omega)))
  clear hb
  go_wp2_with fail
  refine (hm _).mono ?_
  rintro e w3 ⟨rfl, hb⟩
  have y0 := pw_cell_below hb y0
  have y1 := pw_cell_below hb y1
  have y2 := pw_cell_below hb y2
  have y3 := pw_cell_below hb y3
  have y4 := pw_cell_below hb y4
  have hz3 := hb.size
  have HB := Aside0.mk (HB.out.trans (hb.mono (by have := HB.out.size; omega)))
  clear hb
  go_wp2_with fail
  have Y0 := Aside0.mk y0
  have Y1 := Aside0.mk y1
  have Y2 := Aside0.mk y2
  have Y3 := Aside0.mk y3
  have Y4 := Aside0.mk y4
  clear y0 y1 y2 y3 y4
  have hzw := HB.out.size
  go_loopw [20] (fun i wr => ∃ j : Nat, j ≤ 2 ∧ i = .int .i64 j ∧ (0 < j → badH b0 s0 18446744073709543424 = false) ∧ (1 < j → badH b1 s1 18446744073709543424 = false) ∧ Below w3.heap.size w3 wr) (fun i _ => 2 - (intOf i).toNat)
  case atStart => exact ⟨0, by omega, rfl, fun h => absurd h (by omega), fun h => absurd h (by omega), Below.refl _ _⟩
  case round =>
    obtain ⟨j, hj, rfl, g0, g1, hb⟩ := hrel
    have G0 := Aside0.mk g0
    have G1 := Aside0.mk g1
    clear g0 g1
    have y0 := pw_cell_below hb Y0.out
    have y1 := pw_cell_below hb Y1.out
    have y2 := pw_cell_below hb Y2.out
    have y3 := pw_cell_below hb Y3.out
    have y4 := pw_cell_below hb Y4.out
    have HBR := Aside0.mk hb
    clear hb
    have hjj : j = 0 ∨ j = 1 ∨ j = 2 := by omega
    rcases hjj with rfl | rfl | rfl
    · go_wp2_with fail
      refine (hh _).mono ?_
      rintro e w4 ⟨rfl, hb⟩
      have z0 := pw_cell_below hb y0
      have z1 := pw_cell_below hb y1
      have z2 := pw_cell_below hb y2
      have z3 := pw_cell_below hb y3
      have z4 := pw_cell_below hb y4
      have hzr := HBR.out.size
      have HB4 := Aside0.mk (HBR.out.trans (hb.mono (by omega)))
      clear y0 y1 y2 y3 y4 hb
      go_wp2_with fail
      all_goals first
        | (go_roundw; (case rel => exact ⟨1, by omega, by first | rfl | go_num, fun _ => by simp [badH, *], fun h => absurd h (by omega), HB4.out⟩); (case measure => simp [intOf]))
        | (go_ret; refine ⟨?_, HB.out.trans (HB4.out.mono (by omega))⟩; rw [HX.out]; simp [badH, errW, *])
    · go_wp2_with fail
      refine (hh _).mono ?_
      rintro e w4 ⟨rfl, hb⟩
      have z0 := pw_cell_below hb y0
      have z1 := pw_cell_below hb y1
      have z2 := pw_cell_below hb y2
      have z3 := pw_cell_below hb y3
      have z4 := pw_cell_below hb y4
      have hzr := HBR.out.size
      have HB4 := Aside0.mk (HBR.out.trans (hb.mono (by omega)))
      clear y0 y1 y2 y3 y4 hb
      go_wp2_with fail
      all_goals first
        | (go_roundw; (case rel => exact ⟨2, by omega, by first | rfl | go_num, fun _ => G0.out (by omega), fun _ => by simp [badH, *], HB4.out⟩); (case measure => simp [intOf]))
        | (go_ret; refine ⟨?_, HB.out.trans (HB4.out.mono (by omega))⟩; rw [HX.out]; simp [badH, errW, *])
    · have r0 := G0.out (by omega)
      have r1 := G1.out (by omega)
      have hX : X = none := by rw [HX.out, r0, r1]; rfl
      subst hX
      clear y0 y1 y2 y3 y4
      go_wp2
      go_ret
      exact ⟨rfl, HB.out.trans (HBR.out.mono (by have := HB.out.size; omega))⟩
/-- what may be of a table, beyond its lattice -/
def restT (l : Int) : Int := if l = 1 then 0 else if l = 2 then 18446744073709551600 else 18446744073709543424
def outT (l : Int) : Int := if l = 1 then 18446744073709551615 else restT l
def checkT (l b0 b1 s0 s1 : Int) : Option Int := if 1 ≤ l ∧ l ≤ 3 then (if (badH b0 s0 (restT l) || badH b1 s1 (outT l)) = true then some 5 else none) else some 11
def XTCheck.f (l b0 b1 s0 s1 : Int) : Option (Option Int) := some (checkT l b0 b1 s0 s1)
theorem XTCheck.calls (a0_0 : Int) (a0_1 : Int) (a0_2 : Int) (a0_3 : Int) (a0_4 : Int) (r : Option Int) (w : World) (h : XTCheck.f a0_0 a0_1 a0_2 a0_3 a0_4 = some r) :
    Calls Tryd.prog 42 #[.agg #[.int .i64 a0_0, .int .u64 a0_1, .int .u64 a0_2, .int .u64 a0_3, .int .u64 a0_4]] w fun e w' => e = .returned (errW r) ∧ Below w.heap.size w w' := by
  unfold XTCheck.f at h
  obtain rfl := Option.some.inj h
  unfold checkT
  by_cases hl : 1 ≤ a0_0 ∧ a0_0 ≤ 3
  · rw [if_pos hl]
    have hc : a0_0 = 1 ∨ a0_0 = 2 ∨ a0_0 = 3 := by omega
    rcases hc with rfl | rfl | rfl
    · exact tcheck_1 _ _ _ _ w _ rfl
    · exact tcheck_2 _ _ _ _ w _ rfl
    · exact tcheck_3 _ _ _ _ w _ rfl
  · rw [if_neg hl]
    exact tcheck_bad _ _ _ _ _ w hl
def XSix.f : Option (Int × Int × Int × Int × Int × Int × Int × Int × Int × Int × Int × Int) := some (1, 0, 0, 1, -1, 1, -1, 0, 0, -1, 1, -1)
theorem XSix.calls (r1 r2 r3 r4 r5 r6 r7 r8 r9 r10 r11 r12 : Int) (w : World) (hGSix : Six w) (h : XSix.f = some (r1, r2, r3, r4, r5, r6, r7, r8, r9, r10, r11, r12)) :
    Calls Tryd.prog 43 #[] w fun e w' => e = .returned (.agg #[.int .i64 r1, .int .i64 r2, .int .i64 r3, .int .i64 r4, .int .i64 r5, .int .i64 r6, .int .i64 r7, .int .i64 r8, .int .i64 r9, .int .i64 r10, .int .i64 r11, .int .i64 r12]) ∧ Below w.heap.size w w' := by
  simp only [XSix.f, Option.some.injEq, Prod.mk.injEq] at h
  obtain ⟨rfl, rfl, rfl, rfl, rfl, rfl, rfl, rfl, rfl, rfl, rfl, rfl⟩ := h
  exact six_any w hGSix
def kxA : Nat → Int
  | 0 => 1 | 1 => 0 | 2 => -1 | 3 => -1 | 4 => 0 | 5 => 1 | _ => 0
def kxB : Nat → Int
  | 0 => 0 | 1 => 1 | 2 => 1 | 3 => 0 | 4 => -1 | 5 => -1 | _ => 0
theorem kx_index (k : Nat) (hk : k < 6) : ∀ (w : World), (Instr.index 96 (.agg #[.int .i64 1, .int .i64 0, .int .i64 0, .int .i64 1, .int .i64 (-1), .int .i64 1, .int .i64 (-1), .int .i64 0, .int .i64 0, .int .i64 (-1), .int .i64 1, .int .i64 (-1)]) (.int .i64 k)).run Tryd.prog w = .ok (.agg #[.int .i64 (kxA k), .int .i64 (kxB k)]) w := by
  have : k = 0 ∨ k = 1 ∨ k = 2 ∨ k = 3 ∨ k = 4 ∨ k = 5 := by omega
  rcases this with rfl | rfl | rfl | rfl | rfl | rfl <;> exact fun w => by kernel_rfl
theorem nearK_hex (k : Nat) (hk : k < 6) : (nearK 1 0).take (k + 1) = (nearK 1 0).take k ++ [⟨kxA k, kxB k, 0, 2 ^ k⟩] := by
  have : k = 0 ∨ k = 1 ∨ k = 2 ∨ k = 3 ∨ k = 4 ∨ k = 5 := by omega
  rcases this with rfl | rfl | rfl | rfl | rfl | rfl <;> rfl
abbrev kerO (l b0 b1 s0 s1 : Int) (v0 v1 : Value) : Obj := .cells #[.int .i64 l, .int .u64 b0, .int .u64 b1, .int .u64 s0, .int .u64 s1, v0, v1] 95 (0, 0)
theorem bnew_hex (b0 b1 s0 s1 : Int) (w : World) (h : checkT 1 b0 b1 s0 s1 = none) (hG : Six w) :
    Calls Tryd.prog 11 #[.agg #[.int .i64 1, .int .u64 b0, .int .u64 b1, .int .u64 s0, .int .u64 s1]] w fun e w' => ∃ gk : Nat, e = .returned (.tuple #[.pointer (some ⟨gk, 0, none⟩), .nilIface]) ∧ KerAt w' gk 1 b0 b1 s0 s1 ∧ w.heap.size ≤ gk ∧ Below w.heap.size w w' := by
  have hc := fun W => XTCheck.calls 1 b0 b1 s0 s1 none W (by unfold XTCheck.f; rw [h])
  simp only [errW_none] at hc
  have HC := Aside0.mk hc
  have HG := Aside0.mk hG
  clear hc h hG
  have hsix := fun W hW => XSix.calls 1 0 0 1 (-1) 1 (-1) 0 0 (-1) 1 (-1) W hW rfl
  have HSIX := Aside0.mk hsix
  clear hsix
  go_enter Tryd.func11, Tryd.ntmps11
  go_wp2_with fail
  obtain ⟨w1, hw1⟩ : ∃ W, W = w.alloc (.cells #[.int .i64 1, .int .u64 b0, .int .u64 b1, .int .u64 s0, .int .u64 s1] 32 (0, 0)) := ⟨_, rfl⟩
  have bt : w1.heap[w.heap.size]? = some (.cells #[.int .i64 1, .int .u64 b0, .int .u64 b1, .int .u64 s0, .int .u64 s1] 32 (0, 0)) := by rw [hw1]; exact blk_new _ _
  have hB : Below w.heap.size w w1 := by rw [hw1]; exact (by with_reducible repeat (first | apply below_alloc | apply pw_below_drewN | apply below_drew | refine bset ?_ _ _ (by omega) _ | exact Below.refl _ _))
  rw [← hw1]
  obtain ⟨g1, hg1⟩ : ∃ g, g = w.heap.size := ⟨_, rfl⟩
  rw [← hg1] at bt ⊢
  have l1 : w.heap.size ≤ g1 := by omega
  clear hw1 hg1
  refine (HC.out _).mono ?_
  rintro e w2 ⟨rfl, hb⟩
  have bt2 := blk_below bt hb
  have hB2 := hB.trans (hb.mono hB.size)
  clear bt hB hb
  have t0 := blk_cell bt2 0
  have t1 := blk_cell bt2 1
  have t2 := blk_cell bt2 2
  have t3 := blk_cell bt2 3
  have t4 := blk_cell bt2 4
  simp only [List.getElem?_toArray, List.getElem?_cons_zero, List.getElem?_cons_succ] at t0 t1 t2 t3 t4
  go_upto_region 5 with (fail)
  obtain ⟨w3, hw3⟩ : ∃ W, W = w2.alloc (kerO 1 b0 b1 s0 s1 (.slice none 0 0) (.slice none 0 0)) := ⟨_, rfl⟩
  have bk3 : w3.heap[w2.heap.size]? = some (kerO 1 b0 b1 s0 s1 (.slice none 0 0) (.slice none 0 0)) := by rw [hw3]; exact blk_new _ _
  have bt3 : w3.heap[g1]? = some (.cells #[.int .i64 1, .int .u64 b0, .int .u64 b1, .int .u64 s0, .int .u64 s1] 32 (0, 0)) := by rw [hw3]; exact blk_alloc bt2 _
  have hB3 : Below w.heap.size w w3 := by rw [hw3]; exact below_alloc hB2 _
  have hz3 : w2.heap.size < w3.heap.size := by rw [hw3, World.size_alloc]; omega
  rw [← hw3]
  obtain ⟨g5, hg5⟩ : ∃ g, g = w2.heap.size := ⟨_, rfl⟩
  have l5 : w.heap.size ≤ g5 := by have := hB2.size; omega
  have n15 : g1 ≠ g5 := by have := blk_lt bt2; omega
  rw [← hg5] at bk3 hz3 ⊢
  clear t0 t1 t2 t3 t4 hw3 hg5 bt2 hB2
  have t0 := blk_cell bt3 0
  simp only [List.getElem?_toArray, List.getElem?_cons_zero, List.getElem?_cons_succ] at t0
  go_wp2_with fail
  refine (HSIX.out _ (HG.out.below hB3)).mono ?_
  rintro e w4 ⟨rfl, hb4⟩
  have bk4 := blk_below bk3 hb4
  have hB4 := hB3.trans (hb4.mono hB3.size)
  have hz4 := hb4.size
  clear t0 bk3 bt3 hB3 hb4
  go_wp2_with fail
  go_loopw [25] (fun kv wr => ∃ (k : Nat) (v : Value), k ≤ 6 ∧ kv = .int .i64 k ∧ wr.heap[g5]? = some (kerO 1 b0 b1 s0 s1 v (.slice none 0 0)) ∧ Kd.R k99 99 wr w.heap.size (fun k => k ≠ g5) v ((nearK 1 0).take k) ∧ Below w.heap.size w wr) (fun kv _ => 6 - (intOf kv).toNat)
  case atStart => exact ⟨0, _, by omega, rfl, bk4, Kd.R_nil _ _ _ _ _, hB4⟩
  case round =>
    obtain ⟨k, v, hk, rfl, bk, hR, hB⟩ := hrel
    have BK := Aside0.mk bk
    have RR := Aside0.mk hR
    have HB := Aside0.mk hB
    have hkl := blk_lt bk
    have hBz := hB.size
    clear bk4 hB4 hR hB
    by_cases hk6 : k < 6
    · have hix := kx_index k hk6
      have hnx := nearK_hex k hk6
      have HNX := Aside0.mk hnx
      have hlen : ((nearK 1 0).take k).length ≤ 6 := by rw [List.length_take]; exact Nat.min_le_right _ _
      have hwp : IntKind.i64.wrap (2 ^ k) = 2 ^ k := by
        have hkk : k = 0 ∨ k = 1 ∨ k = 2 ∨ k = 3 ∨ k = 4 ∨ k = 5 := by omega
        rcases hkk with rfl | rfl | rfl | rfl | rfl | rfl <;> decide
      have hsh : 0 ≤ (k : Int) ∧ (k : Int) ≤ 64 := by omega
      obtain ⟨hsh1, hsh2⟩ := hsh
      clear hnx bk
      go_upto_region 9 with (fail)
      obtain ⟨w5, hw5⟩ : ∃ W, W = wr.alloc (.cells #[.int .i64 (kxA k), .int .i64 (kxB k)] 45 (0, 0)) := ⟨_, rfl⟩
      have bp5 : w5.heap[wr.heap.size]? = some (.cells #[.int .i64 (kxA k), .int .i64 (kxB k)] 45 (0, 0)) := by rw [hw5]; exact blk_new _ _
      have hb5 : Below wr.heap.size wr w5 := by rw [hw5]; exact below_alloc (Below.refl _ _) _
      rw [← hw5]
      obtain ⟨g7, hg7⟩ : ∃ g, g = wr.heap.size := ⟨_, rfl⟩
      rw [← hg7] at bp5 ⊢
      have BK5 := Aside0.mk (blk_below BK.out hb5)
      have RR5 := Aside0.mk (Kd.R_below RR.out hb5)
      have HB5 := Aside0.mk (HB.out.trans (hb5.mono hBz))
      have hz5 : g5 < w5.drew.heap.size := by have := hb5.size; show g5 < w5.heap.size; omega
      have n5 := blk_cell (blk_drew BK5.out) 5
      have nf := blk_frozen (blk_drew BK5.out)
      have p0 := blk_cell (blk_drew bp5) 0
      have p1 := blk_cell (blk_drew bp5) 1
      simp only [List.getElem?_toArray, List.getElem?_cons_zero, List.getElem?_cons_succ] at n5 p0 p1
      have n5' := blk_cell BK5.out 5
      have n5'' := blk_cell (blk_alloc BK5.out (.cells #[.int .i64 (kxA k), .int .i64 (kxB k), .int .i64 0, .int .i64 (2 ^ k)] 99 (0, 0))) 5
      have p0' := blk_cell bp5 0
      have p1' := blk_cell bp5 1
      simp only [List.getElem?_toArray, List.getElem?_cons_zero, List.getElem?_cons_succ] at n5' n5'' p0' p1'
      clear hw5 hg7 hb5 BK RR HB bp5
      go_region_law (first
        | (refine Kd.R_append_step k99 (w0 := w) (W := w5.drew) w.heap.size rfl (.tmp 34) (.tmp 42) 92 99 (.agg #[.int .i64 0, .int .i64 0, .int .i64 0, .int .i64 0]) 32 rfl Tryd.underlying92 info99 rfl (by decide) (by decide) v ((nearK 1 0).take k) ⟨kxA k, kxB k, 0, 2 ^ k⟩ [.int .i64 (kxA k), .int .i64 (kxB k), .int .i64 0, .int .i64 (2 ^ k)] (fun k => k ≠ g5) (fun _ => False) rfl rfl (k99_mkM _ _ _ _) (fun _ h => h.elim) (fun j hj => by have := hz5; omega) (Kd.R_drew RR5.out) (below_drew HB5.out) (below_drew HB5.out).size (by omega) ?_
           intro v1 w6 hr6 hb6 hg6 hat6
           obtain ⟨A6, c6, e6, hl6, _⟩ := Kd.R_reads hr6
           generalize List.length _ = n6 at e6
           subst e6
           have bk6 := (hg6.block g5 hz5 (fun e => (RR5.out.1 g5 e.symm) rfl)).trans (blk_drew BK5.out)
           have m5 := blk_cell bk6 5
           have mf := blk_frozen bk6
           simp only [List.getElem?_toArray, List.getElem?_cons_zero, List.getElem?_cons_succ] at m5
           have BK6 := Aside0.mk bk6
           have RR6 := Aside0.mk hr6
           have HB6 := Aside0.mk hb6
           clear bk6 hr6 hb6 hg6 hat6))
      all_goals
        clear n5 n5' n5'' nf p0 p1 p0' p1' mf m5 hix hwp hsh1 hsh2
        go_wp2
        go_roundw
        case rel => exact ⟨k + 1, _, by omega, by go_num, blk_put BK6.out 5 _ rfl, by rw [HNX.out]; exact Kd.R_far RR6.out (p := ⟨g5, 5, none⟩) (fun _ h => h) _, Below.setCell (p := ⟨g5, 5, none⟩) HB6.out l5 _⟩
        case measure => simp [intOf]; omega
    · obtain rfl : k = 6 := by omega
      clear bk
      go_wp2
      go_ret2
      obtain ⟨A, c, rfl, hlc, hC⟩ := Kd.R_reads RR.out
      obtain ⟨A1, c1, e1, _, hC1⟩ := Kd.R_reads (Kd.R_nil k99 99 wr 0 (fun _ => True))
      cases e1
      exact ⟨g5, rfl, ⟨A, c, none, 0, BK.out, hC, hC1⟩, l5, HB.out⟩
theorem ofG_bd (q0 q1 q2 q3 : Int) (h0 : 0 ≤ q0 ∧ q0 < 4294967296) (h1 : 0 ≤ q1 ∧ q1 < 4294967296) (h2 : 0 ≤ q2 ∧ q2 < 4294967296) (h3 : 0 ≤ q3 ∧ q3 < 4294967296) (k : Nat) : 0 ≤ ofG q0 q1 q2 q3 k ∧ ofG q0 q1 q2 q3 k < 65536 := by
  unfold ofG ofRow
  split <;> omega
def oneG (k : Nat) : Int := if k = 0 then 1 else 0
theorem of_one : ofG 1 0 0 0 = oneG := by
  funext k
  unfold ofG ofRow oneG
  by_cases h : k < 4
  · have : k = 0 ∨ k = 1 ∨ k = 2 ∨ k = 3 := by omega
    rcases this with rfl | rfl | rfl | rfl <;> decide
  · rw [if_neg h, if_neg h, if_neg (by omega)]
    simp
theorem step_one : blkV (stepG 1 0 0 1 0 oneG) = blkV oneG := by
  have h : ∀ k : Fin 8, stepG 1 0 0 1 0 oneG k.1 = oneG k.1 := by decide +kernel
  unfold blkV
  rw [show stepG 1 0 0 1 0 oneG 0 = oneG 0 from h 0, show stepG 1 0 0 1 0 oneG 1 = oneG 1 from h 1, show stepG 1 0 0 1 0 oneG 2 = oneG 2 from h 2, show stepG 1 0 0 1 0 oneG 3 = oneG 3 from h 3, show stepG 1 0 0 1 0 oneG 4 = oneG 4 from h 4, show stepG 1 0 0 1 0 oneG 5 = oneG 5 from h 5, show stepG 1 0 0 1 0 oneG 6 = oneG 6 from h 6, show stepG 1 0 0 1 0 oneG 7 = oneG 7 from h 7]
theorem one_cells : blkV oneG = .agg #[.int .u16 1, .int .u16 0, .int .u16 0, .int .u16 0, .int .u16 0, .int .u16 0, .int .u16 0, .int .u16 0] := rfl
theorem one_eq : ∀ w, (binOp .eql 52 (.agg #[.int .u16 1, .int .u16 0, .int .u16 0, .int .u16 0, .int .u16 0, .int .u16 0, .int .u16 0, .int .u16 0]) (.agg #[.int .u16 1, .int .u16 0, .int .u16 0, .int .u16 0, .int .u16 0, .int .u16 0, .int .u16 0, .int .u16 0])).run Tryd.prog w = .ok (.bool true) w := fun w => by
  simp only [binOp]
  have h := eqA52 9998 w 1 1 0 0 0 0 0 0 0 0 0 0 0 0 0 0
  simp [Op.equal, Op.maxDepth, h]
abbrev S8 (gx : Nat) (W : World) : Prop := W.cell? ⟨gx, 0, none⟩ = some (.int .u16 1) ∧ W.cell? ⟨gx, 1, none⟩ = some (.int .u16 0) ∧ W.cell? ⟨gx, 2, none⟩ = some (.int .u16 0) ∧ W.cell? ⟨gx, 3, none⟩ = some (.int .u16 0) ∧ W.cell? ⟨gx, 4, none⟩ = some (.int .u16 0) ∧ W.cell? ⟨gx, 5, none⟩ = some (.int .u16 0) ∧ W.cell? ⟨gx, 6, none⟩ = some (.int .u16 0) ∧ W.cell? ⟨gx, 7, none⟩ = some (.int .u16 0)
abbrev oneO : Obj := .cells #[.int .u16 1, .int .u16 0, .int .u16 0, .int .u16 0, .int .u16 0, .int .u16 0, .int .u16 0, .int .u16 0] 52 (0, 0)
theorem S8.of {W : World} {gx : Nat} (h : W.heap[gx]? = some oneO) : S8 gx W := ⟨blk_cell h 0, blk_cell h 1, blk_cell h 2, blk_cell h 3, blk_cell h 4, blk_cell h 5, blk_cell h 6, blk_cell h 7⟩
theorem awk10_any (w : World) (hG : Six w) :
    Calls Tryd.prog 9 #[] w fun e w' => e = .returned (.bool true) ∧ Below w.heap.size w w' := by
  have cNew := fun W (hW : Six W) => bnew_hex 0 0 1 0 W (by decide +kernel) hW
  have cOf1 := fun W => bof_any 1 0 0 0 W (by omega) (by omega) (by omega) (by omega)
  have cOfA := fun W => bof_any 4294967295 4294967295 4294967295 4294967295 W (by omega) (by omega) (by omega) (by omega)
  rw [of_one, one_cells] at cOf1
  have cMid := fun W => bmid_any (ofG 4294967295 4294967295 4294967295 4294967295) W (fun k _ => ofG_bd _ _ _ _ (by omega) (by omega) (by omega) (by omega) k)
  have eMid : midF (ofG 4294967295 4294967295 4294967295 4294967295) 4 = 4294967295 := by decide +kernel
  rw [eMid] at cMid
  have oneB : ∀ k, k < 8 → 0 ≤ oneG k ∧ oneG k < 65536 := fun k _ => by unfold oneG; split <;> omega
  have cStep := fun gk W (h : KerAt W gk 1 0 0 1 0) => bstep_any 1 0 0 1 0 oneG gk W (by omega) oneB h
  rw [step_one, one_cells] at cStep
  have cEmp := fun W => block_Block_Empty.calls 1 0 0 0 0 0 0 0 false W (by decide)
  have cSt := fun W => bst_any oneG 0 0 W oneB
  have eSt : stB oneG 0 0 = 1 := by decide +kernel
  rw [eSt, one_cells] at cSt
  have CNEW := Aside0.mk cNew
  have COF1 := Aside0.mk cOf1
  have COFA := Aside0.mk cOfA
  have CMID := Aside0.mk cMid
  have CSTEP := Aside0.mk cStep
  have CEMP := Aside0.mk cEmp
  have CST := Aside0.mk cSt
  have heq := one_eq
  clear cNew cOf1 cOfA cMid eMid oneB cStep cEmp cSt eSt
  go_enter Tryd.func9, Tryd.ntmps9
  go_wp2_with fail
  refine (CNEW.out _ hG).mono ?_
  rintro e w2 ⟨gk, rfl, hk, hgk, hb2⟩
  have K2 := Aside0.mk hk
  have HB2 := Aside0.mk hb2
  clear hk hb2
  go_wp2_with fail
  refine (COF1.out _).mono ?_
  rintro e w3 ⟨rfl, hb3⟩
  have K3 := Aside0.mk (K2.out.below hb3)
  have HB3 := Aside0.mk (HB2.out.trans (hb3.mono HB2.out.size))
  clear hb3 K2 HB2
  go_upto_region 4 with (fail)
  obtain ⟨w4, hw4⟩ : ∃ W, W = w3.alloc oneO := ⟨_, rfl⟩
  have bx4 : w4.heap[w3.heap.size]? = some oneO := by rw [hw4]; exact blk_new _ _
  have hb4 : Below w3.heap.size w3 w4 := by rw [hw4]; exact below_alloc (Below.refl _ _) _
  rw [← hw4]
  obtain ⟨gx, hgx⟩ : ∃ g, g = w3.heap.size := ⟨_, rfl⟩
  rw [← hgx] at bx4 ⊢
  have K4 := Aside0.mk (K3.out.below hb4)
  have HB4 := Aside0.mk (HB3.out.trans (hb4.mono HB3.out.size))
  have X4 := Aside0.mk bx4
  have hS4 : S8 gx w4.drew := S8.of (blk_drew bx4)
  have X5 := Aside0.mk (blk_drew bx4)
  have K5 := Aside0.mk (K4.out.below (below_drew (Below.refl w4.heap.size w4)))
  have HB5 := Aside0.mk (below_drew HB4.out)
  clear hw4 hgx hb4 bx4 K3 HB3 K4 HB4 X4
  go_region_held3 (fun W => W.cell? ⟨gx, 0, none⟩ = some (.int .u16 1) ∧ W.cell? ⟨gx, 1, none⟩ = some (.int .u16 0) ∧ W.cell? ⟨gx, 2, none⟩ = some (.int .u16 0) ∧ W.cell? ⟨gx, 3, none⟩ = some (.int .u16 0) ∧ W.cell? ⟨gx, 4, none⟩ = some (.int .u16 0) ∧ W.cell? ⟨gx, 5, none⟩ = some (.int .u16 0) ∧ W.cell? ⟨gx, 6, none⟩ = some (.int .u16 0) ∧ W.cell? ⟨gx, 7, none⟩ = some (.int .u16 0))
    (with_reducible assumption)
    (first
      | (go_at_call 17
         with_reducible refine (COFA.out _).mono ?_
         rintro e w6 ⟨rfl, hb6⟩
         have z1 := HB5.out.size
         replace X5 := Aside0.mk (blk_below X5.out hb6)
         replace K5 := Aside0.mk (K5.out.below hb6)
         replace HB5 := Aside0.mk (HB5.out.trans (hb6.mono z1))
         have hS6 : S8 gx w6 := S8.of X5.out
         clear z1 hb6)
      | (go_at_call 21
         with_reducible refine (CMID.out _).mono ?_
         rintro e w6 ⟨rfl, hb6⟩
         have z1 := HB5.out.size
         replace X5 := Aside0.mk (blk_below X5.out hb6)
         replace K5 := Aside0.mk (K5.out.below hb6)
         replace HB5 := Aside0.mk (HB5.out.trans (hb6.mono z1))
         have hS6 : S8 gx w6 := S8.of X5.out
         clear z1 hb6)
      | (go_at_call 16
         with_reducible refine (CSTEP.out _ _ K5.out).mono ?_
         rintro e w6 ⟨rfl, hb6⟩
         have z1 := HB5.out.size
         replace X5 := Aside0.mk (blk_below X5.out hb6)
         replace K5 := Aside0.mk (K5.out.below hb6)
         replace HB5 := Aside0.mk (HB5.out.trans (hb6.mono z1))
         have hS6 : S8 gx w6 := S8.of X5.out
         clear z1 hb6)
      | (go_at_call 26
         with_reducible refine (CEMP.out _).mono ?_
         rintro e w6 ⟨rfl, hb6⟩
         have z1 := HB5.out.size
         replace X5 := Aside0.mk (blk_below X5.out hb6)
         replace K5 := Aside0.mk (K5.out.below hb6)
         replace HB5 := Aside0.mk (HB5.out.trans (hb6.mono z1))
         have hS6 : S8 gx w6 := S8.of X5.out
         clear z1 hb6)
      | (go_at_call 23
         with_reducible refine (CST.out _).mono ?_
         rintro e w6 ⟨rfl, hb6⟩
         have z1 := HB5.out.size
         replace X5 := Aside0.mk (blk_below X5.out hb6)
         replace K5 := Aside0.mk (K5.out.below hb6)
         replace HB5 := Aside0.mk (HB5.out.trans (hb6.mono z1))
         have hS6 : S8 gx w6 := S8.of X5.out
         clear z1 hb6))
  all_goals
    go_wp2
    go_ret
    exact ⟨rfl, HB5.out⟩
namespace H
attribute [local go_sem] max2_int min2_int max_two min_two max_three min_three max_four min_four
def honeycomblaw10_Own.f (a0_0 : Int) (a0_1 : Int) (a0_2 : Int) (a0_3 : Int) : Option (Int × Int × Int × Int) := some (a0_0, a0_1, a0_2, a0_3)
theorem honeycomblaw10_Own.calls (a0_0 : Int) (a0_1 : Int) (a0_2 : Int) (a0_3 : Int) (r1 : Int) (r2 : Int) (r3 : Int) (r4 : Int) (w : World) (h : honeycomblaw10_Own.f a0_0 a0_1 a0_2 a0_3 = some (r1, r2, r3, r4)) :
  Calls Tryd.prog 18 #[.agg #[.int .u32 a0_0, .int .u32 a0_1, .int .u32 a0_2, .int .u32 a0_3]] w fun e w' => e = .returned (.agg #[.int .u32 r1, .int .u32 r2, .int .u32 r3, .int .u32 r4]) ∧ Below w.heap.size w w' := by
 have hu27 := Tryd.underlying27
 have hu56 := Tryd.underlying56
 have HB := Aside0.mk (Below.refl w.heap.size w)
 have H : (some (a0_0, a0_1, a0_2, a0_3)) = some (r1, r2, r3, r4) := h
 clear h
 simp only [Option.some.injEq, Prod.mk.injEq] at H
 obtain ⟨rfl, rfl, rfl, rfl⟩ := H
 go_enter Tryd.func18, Tryd.ntmps18
 go_wp2_with (first | ((with_reducible refine gate_dst (N := 1) rfl ?_); refine box_event ?hg (N := 1) ?hd (cs := #[.int .u32 a0_0, .int .u32 a0_1, .int .u32 a0_2, .int .u32 a0_3]) (t := 27) ?hr ?_; (case hd => rfl); (case hg => rfl); (case hr => first | (go_simp; done) | (go_simp; rfl)); intro gb206 hg w2 hbox hb; have n0_ := Aside0.mk (below_step (by repeat (first | (with_reducible first | exact HB.out | apply ba_ | apply bn_ | apply bd_) | exact HB.out)) hb); have n1_ := Aside0.mk (hbox); have n2_ := Aside0.mk ((by rw [hg]; exact (below_size (by repeat (first | (with_reducible first | exact HB.out | apply ba_ | apply bn_ | apply bd_) | exact HB.out))) : w.heap.size ≤ gb206)); have n3_ := Aside0.mk ((by rw [hg]; exact (below_size (by repeat (first | (with_reducible first | exact HB.out | apply ba_ | apply bn_ | apply bd_) | exact HB.out))) : w.heap.size ≤ gb206)); clear HB; have HB := n0_; have BK206 := n1_; have GW206 := n2_; have GE206 := n3_; clear n0_ n1_ n2_ n3_; clear hb hbox hg) | ((with_reducible refine gate_dst (N := 2) rfl ?_); refine box_event ?hg (N := 2) ?hd (cs := #[.int .u32 0, .int .u32 0, .int .u32 0, .int .u32 0]) (t := 56) ?hr ?_; (case hd => rfl); (case hg => rfl); (case hr => first | (go_simp; done) | (go_simp; rfl)); intro gb207 hg w3 hbox hb; have n0_ := Aside0.mk (blk_below (g := gb206) (o := .cells #[.int .u32 a0_0, .int .u32 a0_1, .int .u32 a0_2, .int .u32 a0_3] 27 (0, 0)) (by (with_reducible repeat (first | apply bN_ | apply bD_ | apply bA_)); exact BK206.out) hb); have n1_ := Aside0.mk (below_step (by repeat (first | (with_reducible first | exact HB.out | apply ba_ | apply bn_ | apply bd_ | refine below_set ?_ GE206.out) | exact HB.out)) hb); have n2_ := Aside0.mk (hbox); have n3_ := Aside0.mk ((by rw [hg]; exact (below_size (by repeat (first | (with_reducible first | exact HB.out | apply ba_ | apply bn_ | apply bd_ | refine below_set ?_ GE206.out) | exact HB.out))) : w.heap.size ≤ gb207)); have n4_ := Aside0.mk ((by rw [hg]; exact (below_size (by repeat (first | (with_reducible first | exact HB.out | apply ba_ | apply bn_ | apply bd_ | refine below_set ?_ GE206.out) | exact HB.out))) : w.heap.size ≤ gb207)); have n5_ := Aside0.mk ((by rw [hg]; exact Nat.ne_of_lt (blk_lt (g := gb206) (o := .cells #[.int .u32 a0_0, .int .u32 a0_1, .int .u32 a0_2, .int .u32 a0_3] 27 (0, 0)) (by (with_reducible repeat (first | apply bN_ | apply bD_ | apply bA_)); exact BK206.out)) : gb206 ≠ gb207)); have n6_ := Aside0.mk ((by rw [hg]; exact Nat.ne_of_gt (blk_lt (g := gb206) (o := .cells #[.int .u32 a0_0, .int .u32 a0_1, .int .u32 a0_2, .int .u32 a0_3] 27 (0, 0)) (by (with_reducible repeat (first | apply bN_ | apply bD_ | apply bA_)); exact BK206.out)) : gb207 ≠ gb206)); clear BK206; clear HB; have BK206 := n0_; have HB := n1_; have BK207 := n2_; have GW207 := n3_; have GE207 := n4_; have NB206_207 := n5_; have NB207_206 := n6_; clear n0_ n1_ n2_ n3_ n4_ n5_ n6_; clear hb hbox hg; have hnb4 := NB206_207.out; have hnc4 := NB207_206.out; have hcz5_0 : w3.cell? ⟨gb206, 0, none⟩ = some (.int .u32 a0_0) := (blk_cell BK206.out 0).trans rfl; have hcz5_1 : w3.cell? ⟨gb206, 1, none⟩ = some (.int .u32 a0_1) := (blk_cell BK206.out 1).trans rfl; have hcz5_2 : w3.cell? ⟨gb206, 2, none⟩ = some (.int .u32 a0_2) := (blk_cell BK206.out 2).trans rfl; have hcz5_3 : w3.cell? ⟨gb206, 3, none⟩ = some (.int .u32 a0_3) := (blk_cell BK206.out 3).trans rfl; have hfz5_0 := blk_frozen BK206.out 0; have hfz5_1 := blk_frozen BK206.out 1; have hfz5_2 := blk_frozen BK206.out 2; have hfz5_3 := blk_frozen BK206.out 3; have hcz6_0 : w3.cell? ⟨gb207, 0, none⟩ = some (.int .u32 0) := (blk_cell BK207.out 0).trans rfl; have hcz6_1 : w3.cell? ⟨gb207, 1, none⟩ = some (.int .u32 0) := (blk_cell BK207.out 1).trans rfl; have hcz6_2 : w3.cell? ⟨gb207, 2, none⟩ = some (.int .u32 0) := (blk_cell BK207.out 2).trans rfl; have hcz6_3 : w3.cell? ⟨gb207, 3, none⟩ = some (.int .u32 0) := (blk_cell BK207.out 3).trans rfl; have hfz6_0 := blk_frozen BK207.out 0; have hfz6_1 := blk_frozen BK207.out 1; have hfz6_2 := blk_frozen BK207.out 2; have hfz6_3 := blk_frozen BK207.out 3))
 refine bodyPost_ret (results_cell_row rfl _ _ gb207 56 #[.int .u32 a0_0, .int .u32 a0_1, .int .u32 a0_2, .int .u32 a0_3] (0, 0) _ rfl (by (with_reducible repeat (first | apply bN_ | apply bD_ | apply bA_)); refine blk_put (cs := #[.int .u32 a0_0, .int .u32 a0_1, .int .u32 a0_2, .int .u32 0]) ?_ 3 _ rfl; (with_reducible repeat (first | apply bN_ | apply bD_ | apply bA_)); refine blk_put (cs := #[.int .u32 a0_0, .int .u32 a0_1, .int .u32 0, .int .u32 0]) ?_ 2 _ rfl; (with_reducible repeat (first | apply bN_ | apply bD_ | apply bA_)); refine blk_put (cs := #[.int .u32 a0_0, .int .u32 0, .int .u32 0, .int .u32 0]) ?_ 1 _ rfl; (with_reducible repeat (first | apply bN_ | apply bD_ | apply bA_)); refine blk_put (cs := #[.int .u32 0, .int .u32 0, .int .u32 0, .int .u32 0]) ?_ 0 _ rfl; (with_reducible repeat (first | apply bN_ | apply bD_ | apply bA_)); exact BK207.out) Tryd.underlying56 rfl (by kernel_rfl)) rfl ?_
 exact ⟨by first | rfl | (simp [errW_none, errW_some] <;> rfl) | (simp [*, errW_none, errW_some] <;> rfl), by repeat (first | (with_reducible first | exact HB.out | apply ba_ | apply bn_ | apply bd_ | refine below_set ?_ GE206.out | refine below_set ?_ GE207.out) | exact HB.out)⟩
end H
end Go.Proofs.YtieekbdododkkaaDoor
