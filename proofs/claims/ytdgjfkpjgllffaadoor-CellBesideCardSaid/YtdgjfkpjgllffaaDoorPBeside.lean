/- CellBeside: the document's list is the program's; the law. -/
import Derived.Test.YtdgjfkpjgllffaaDoorPNear
import Derived.Test.YtdgjfkpjgllffaaDoorHhoneycomblaw03CellBeside
namespace Go.Proofs.YtdgjfkpjgllffaaDoor
open Go.RowKit Go.Proofs.YtdgjfkpjgllffaaDoorW.PrintWords Go.Proofs.YtdgjfkpjgllffaaDoorW.PrintLast Go.Proofs.YtdgjfkpjgllffaaDoorW.PrintMore
open H
open Go.RowKit

theorem candR_len (l a b h x y t : Int) : (candR l a b h x y t).length ≤ 1 := by unfold candR; split <;> simp
theorem goodR_app (xs ys : List RC) : goodR (xs ++ ys) = (goodR xs && goodR ys) := by simp [goodR]
def placeR (l a b h x y : Int) : List RC := candR l a b h x y 0 ++ candR l a b h x y 1
theorem placeR_len (l a b h x y : Int) : (placeR l a b h x y).length ≤ 2 := by
  have := candR_len l a b h x y 0
  have := candR_len l a b h x y 1
  simp only [placeR, List.length_append]
  omega

section
variable (l a b h : Int) (ha : -2000000000000 ≤ a) (ha' : a ≤ 2000000000000) (hb : -2000000000000 ≤ b) (hb' : b ≤ 2000000000000)
include ha ha' hb hb'
theorem bes_place (m : Nat) (hm : 16 ≤ m) (out : List RC) (fine : Bool) (x y : Int) (ho : out.length ≤ 90) (hx : -2 ≤ x) (hx' : x ≤ 2) (hy : -2 ≤ y) (hy' : y ≤ 2) :
    honeycombref03_Beside.l2 (m + 5) l out fine (b + y) (a + x) 0 a b h = honeycombref03_Beside.l1 m l (out ++ placeR l a b h x y) (fine && goodR (placeR l a b h x y)) (b + y) (a + (x + 1)) a b h := by
  have h0 := candR_len l a b h x y 0
  rw [bes_cand (m + 3) (by omega) l out fine x y 0 a b h (.inl rfl) (by omega) ha ha' hb hb' hx hx' hy hy',
    bes_cand (m + 1) (by omega) l _ _ x y (0 + 1) a b h (.inr rfl) (by simp; omega) ha ha' hb hb' hx hx' hy hy']
  simp only [honeycombref03_Beside.l2]
  rw [if_neg (by omega), w64i (a + x + 1) (by omega) (by omega), show a + x + 1 = a + (x + 1) by omega]
  simp only [placeR, goodR_app, List.append_assoc, Bool.and_assoc, Int.zero_add]

def rowN (y : Int) : Nat → List RC
  | 0 => []
  | n + 1 => placeR l a b h (3 - (n + 1 : Nat)) y ++ rowN y n
omit ha ha' hb hb' in
theorem rowN_len (y : Int) (n : Nat) : (rowN l a b h y n).length ≤ 2 * n := by
  induction n with
  | zero => simp [rowN]
  | succ n ih =>
    have := placeR_len l a b h (3 - (n + 1 : Nat)) y
    simp only [rowN, List.length_append]
    omega
theorem bes_row (m : Nat) (hm : 16 ≤ m) (y : Int) (hy : -2 ≤ y) (hy' : y ≤ 2) : ∀ (n : Nat) (x : Int) (out : List RC) (fine : Bool), x = 3 - n → n ≤ 5 → out.length + 2 * n ≤ 90 →
    honeycombref03_Beside.l1 (m + 6 * n + 1) l out fine (b + y) (a + x) a b h = honeycombref03_Beside.l0 m l (out ++ rowN l a b h y n) (fine && goodR (rowN l a b h y n)) (b + (y + 1)) a b h := by
  intro n
  induction n with
  | zero =>
    intro x out fine hx _ _
    rw [show m + 6 * 0 + 1 = m + 1 from rfl]
    simp only [honeycombref03_Beside.l1]
    rw [w64i (a + 2) (by omega) (by omega), if_neg (by omega), w64i (b + y + 1) (by omega) (by omega), show b + y + 1 = b + (y + 1) by omega]
    simp [rowN, goodR]
  | succ n ih =>
    intro x out fine hx hn ho
    have hl := placeR_len l a b h x y
    rw [show m + 6 * (n + 1) + 1 = (m + 6 * n + 1) + 5 + 1 by omega]
    rw [show honeycombref03_Beside.l1 (m + 6 * n + 1 + 5 + 1) l out fine (b + y) (a + x) a b h = honeycombref03_Beside.l2 (m + 6 * n + 1 + 5) l out fine (b + y) (a + x) 0 a b h by
      simp only [honeycombref03_Beside.l1]
      rw [w64i (a + 2) (by omega) (by omega), if_pos (by omega)]]
    rw [bes_place l a b h ha ha' hb hb' (m + 6 * n + 1) (by omega) out fine x y (by omega) (by omega) (by omega) hy hy', ih (x + 1) _ _ (by omega) (by omega) (by simp; omega)]
    have hx' : (3 : Int) - ((n + 1 : Nat) : Int) = x := by omega
    simp only [rowN, hx', goodR_app, List.append_assoc, Bool.and_assoc]

def allN : Nat → List RC
  | 0 => []
  | n + 1 => rowN l a b h (3 - (n + 1 : Nat)) 5 ++ allN n
theorem bes_step (M : Nat) (hM : 16 ≤ M) (y : Int) (hy : -2 ≤ y) (hy' : y ≤ 2) (out : List RC) (fine : Bool) (ho : out.length ≤ 80) :
    honeycombref03_Beside.l0 (M + 32) l out fine (b + y) a b h = honeycombref03_Beside.l0 M l (out ++ rowN l a b h y 5) (fine && goodR (rowN l a b h y 5)) (b + (y + 1)) a b h := by
  have e := bes_row l a b h ha ha' hb hb' M hM y hy hy' 5 (-2) out fine (by omega) (by omega) (by omega)
  rw [show M + 6 * 5 + 1 = M + 31 from rfl] at e
  rw [← e, show M + 32 = (M + 31) + 1 from rfl]
  generalize M + 31 = K
  simp only [honeycombref03_Beside.l0]
  rw [w64i (b + 2) (by omega) (by omega), if_pos (by omega), w64i (a - 2) (by omega) (by omega), show a - 2 = a + -2 by omega]
omit ha ha' in
theorem bes_end (M : Nat) (out : List RC) (fine : Bool) : honeycombref03_Beside.l0 (M + 1) l out fine (b + 3) a b h = some (out, fine) := by
  simp only [honeycombref03_Beside.l0]
  rw [w64i (b + 2) (by omega) (by omega), if_neg (by omega)]
theorem bes_all (m : Nat) (hm : 16 ≤ m) : ∀ (n : Nat) (y : Int) (out : List RC) (fine : Bool), y = 3 - n → n ≤ 5 → out.length + 10 * n ≤ 80 →
    honeycombref03_Beside.l0 (m + 1 + 32 * n) l out fine (b + y) a b h = some (out ++ allN l a b h n, fine && goodR (allN l a b h n)) := by
  intro n
  induction n with
  | zero =>
    intro y out fine hy _ _
    rw [show y = 3 by omega, Nat.mul_zero, Nat.add_zero, bes_end l a b h hb hb']
    simp [allN, goodR]
  | succ n ih =>
    intro y out fine hy hn ho
    have hl := rowN_len l a b h y 5
    have hy' : (3 : Int) - ((n + 1 : Nat) : Int) = y := by omega
    have hsum : m + 1 + 32 * (n + 1) = (m + 1 + 32 * n) + 32 := by omega
    have hM : 16 ≤ m + 1 + 32 * n := by omega
    rw [hsum, bes_step l a b h ha ha' hb hb' _ hM y (by omega) (by omega) out fine (by omega), ih (y + 1) _ _ (by omega) (by omega) (by simp; omega)]
    simp only [allN, hy', goodR_app, List.append_assoc, Bool.and_assoc]
end

def shR (a b : Int) (o : CL) : RC := ⟨a + o.f0.f0, b + o.f0.f1, o.f1⟩
def candD (l h x y t : Int) : List CL := if ((decide (l > 1) || t == 0) && nearD l h x y t) = true then [mk x y t] else []
theorem candR_eq (l a b h x y t : Int) : candR l a b h x y t = (candD l h x y t).map (shR a b) := by
  unfold candR candD
  split <;> simp [shR, mk]
def fives : List Int := [-2, -1, 0, 1, 2]
def allD (l h : Int) : List CL := fives.flatMap fun y => fives.flatMap fun x => candD l h x y 0 ++ candD l h x y 1
theorem allN_eq (l a b h : Int) : allN l a b h 5 = (allD l h).map (shR a b) := by
  simp only [allN, rowN, placeR, candR_eq, allD, fives, List.flatMap_cons, List.flatMap_nil, List.map_append, List.append_assoc, List.append_nil]
  rfl
theorem allD_offs (l h : Int) (hl : 1 ≤ l) (hl' : l ≤ 3) (h0 : h = 0 ∨ h = 1) (h1 : l = 1 → h = 0) : allD l h = offs l h := by
  have : l = 1 ∨ l = 2 ∨ l = 3 := by omega
  rcases this with rfl | rfl | rfl
  · rw [h1 rfl]; decide
  · rcases h0 with rfl | rfl <;> decide
  · rcases h0 with rfl | rfl <;> decide
/-- the document's list -/
theorem refBeside_f (m : Nat) (hm : 16 ≤ m) (l a b h : Int) (hl : 1 ≤ l) (hl' : l ≤ 3) (h0 : h = 0 ∨ h = 1) (h1 : l = 1 → h = 0) (hg : goodP a b) :
    honeycombref03_Beside.f (m + 161) l a b h = some ((offs l h).map (shR a b), goodR ((offs l h).map (shR a b))) := by
  obtain ⟨g1, g2, g3, g4⟩ := hg
  unfold honeycombref03_Beside.f
  rw [w64i (b - 2) (by omega) (by omega)]
  have := bes_all l a b h (by omega) (by omega) (by omega) (by omega) m hm 5 (-2) [] true (by omega) (by omega) (by simp)
  rw [show b - 2 = b + -2 by omega, show m + 161 = m + 1 + 32 * 5 by omega, this, allN_eq, allD_offs l h hl hl' h0 h1]
  simp

theorem told_f (a b h : Int) : honeycomblaw03_Told.f a b h = some (a, b, h) := rfl
theorem own_f (a b h : Int) : honeycomblaw03_Own.f a b h = some (a, b, h) := rfl
theorem cmp_l0 (X : List CL) (Y : List RC) (hl : X.length = Y.length) (hm : X.length ≤ 100) (hXY : ∀ i (h1 : i < X.length) (h2 : i < Y.length), Y[i] = ⟨X[i].f0.f0, X[i].f0.f1, X[i].f1⟩) : ∀ (d k : Nat) (i : Int), 0 ≤ i → i + d = X.length → d < k → honeycomblaw03_CellBeside.l0 k X Y X.length i = some true := by
  intro d
  induction d with
  | zero =>
    intro k i h0 hi hk
    obtain ⟨k, rfl⟩ : ∃ m, k = m + 1 := ⟨k - 1, by omega⟩
    simp only [honeycomblaw03_CellBeside.l0]
    rw [if_neg (by omega)]
  | succ d ih =>
    intro k i h0 hi hk
    obtain ⟨k, rfl⟩ : ∃ m, k = m + 1 := ⟨k - 1, by omega⟩
    obtain ⟨j, rfl⟩ := Int.eq_ofNat_of_zero_le h0
    have hj : j < X.length := by omega
    have hj' : j < Y.length := by omega
    have e := hXY j hj hj'
    simp only [honeycomblaw03_CellBeside.l0]
    rw [if_pos (by omega), if_pos h0, if_pos (by omega), told_f]
    simp only [Option.bind_some]
    rw [if_pos (by omega), w64i ((j : Int) + 1) (by omega) (by omega), ih k (j + 1) (by omega) (by omega) (by omega)]
    have ex : rd_T30 X j = X[j] := by simp [rd_T30, hj]
    have ey : rd_T23 Y j = Y[j] := by simp [rd_T23, hj']
    rw [ex, ey, e]
    simp

theorem offs_length (l h : Int) (hl : 1 ≤ l) (hl' : l ≤ 3) : ((offs l h).length : Int) = rd [0, 6, 3, 12] l := by
  have : l = 1 ∨ l = 2 ∨ l = 3 := by omega
  rcases this with rfl | rfl | rfl
  · rfl
  · unfold offs; simp; split <;> rfl
  · unfold offs; simp; split <;> rfl

theorem beside_pure (l a b h : Int) : honeycomblaw03_CellBeside.f 200 l a b h = some true := by
  unfold honeycomblaw03_CellBeside.f
  simp only [XAwake3.f, Option.bind_some, ↓reduceIte, own_f, XBeside.f, XCodeOf.f, refCheck_f 198]
  cases hc : checkR l a b h with
  | some c =>
    have hcc : c ≠ 0 := by
      unfold checkR at hc
      repeat' split at hc
      all_goals (cases hc <;> decide)
    simp [hcc]
  | none =>
    obtain ⟨q1, q2, q3, q4, q5⟩ := checkR_ok hc
    simp only [Option.getD_none, ↓reduceIte, refBeside_f 39 (by omega) l a b h q1 q2 q4 q5 q3, Option.bind_some]
    have hgd : goodR ((offs l h).map (shR a b)) = ((offs l h).map (sh a b)).all fun x => decide (goodP x.f0.f0 x.f0.f1) := by
      simp only [goodR, List.all_map]
      rfl
    rw [hgd]
    by_cases hall : (((offs l h).map (sh a b)).all fun x => decide (goodP x.f0.f0 x.f0.f1)) = true
    · simp only [hall, ↓reduceIte, Option.isNone_none, List.length_map]
      have hlen := offs_length l h q1 q2
      have hlb : (offs l h).length ≤ 12 := by
        have : l = 1 ∨ l = 2 ∨ l = 3 := by omega
        rcases this with rfl | rfl | rfl
        · rw [show rd [0, 6, 3, 12] 1 = 6 from rfl] at hlen; omega
        · rw [show rd [0, 6, 3, 12] 2 = 3 from rfl] at hlen; omega
        · rw [show rd [0, 6, 3, 12] 3 = 12 from rfl] at hlen; omega
      rw [if_pos (by omega), if_pos (by simp; omega), ← hlen]
      have e : (((offs l h).length : Int) != ((offs l h).length : Int)) = false := by simp
      rw [e, show (200 : Nat) = 199 + 1 from rfl]
      simp only [honeycomblaw03_CellBeside.j0]
      rw [if_neg (by decide), List.length_map]
      have := cmp_l0 ((offs l h).map (sh a b)) ((offs l h).map (shR a b)) (by simp) (by simp; omega) (fun i h1 h2 => by simp [sh, shR]) (offs l h).length 199 0 (by omega) (by simp) (by omega)
      rw [List.length_map] at this
      exact this
    · simp only [hall]
      simp
theorem cellBeside_walk (l a b h : Int) (w : World) (hG : Six w) (hE : Et w) :
    Calls Tryd.prog 10 #[.int .i64 l, .agg #[.int .i64 a, .int .i64 b, .int .i64 h]] w fun e w' => e = .returned (.bool true) ∧ Below w.heap.size w w' :=
  honeycomblaw03_CellBeside.calls 200 l a b h true w hE hG (beside_pure l a b h)
end Go.Proofs.YtdgjfkpjgllffaaDoor
