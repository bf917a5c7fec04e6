/- The document's On, by corners: the walk. -/
import Derived.Test.YtdgjfkpjgllffaaDoorOpOn
import Derived.Test.YtdgjfkpjgllffaaDoorH13
namespace Go.Proofs.YtdgjfkpjgllffaaDoor
open Go.RowKit Go.Proofs.YtdgjfkpjgllffaaDoorW.PrintWords Go.Proofs.YtdgjfkpjgllffaaDoorW.PrintLast Go.Proofs.YtdgjfkpjgllffaaDoorW.PrintMore
open H
open Go.Shelf Go.RowKit Go.Lib Go.Sort

theorem w64 (x : Int) (h1 : -9223372036854775808 ≤ x) (h2 : x ≤ 9223372036854775807) : wrap64 x = x := by unfold wrap64; omega
def rot0 (o a b : Int) : Int × Int := if o < 6 then (a, b) else (b, a)
def rotN (o a b : Int) : Nat → Int × Int
  | 0 => rot0 o a b
  | k + 1 => turnP (rotN o a b k)

theorem ref01On_f (o a b : Int) (ho : 0 ≤ o) (ho' : o < 12) (ha : -2000000000000 ≤ a) (ha' : a ≤ 2000000000000) (hb : -2000000000000 ≤ b) (hb' : b ≤ 2000000000000) :
    honeycombref01_On.f 10 o a b = some (rotN o a b (o % 6).toNat) := by
  have : o = 0 ∨ o = 1 ∨ o = 2 ∨ o = 3 ∨ o = 4 ∨ o = 5 ∨ o = 6 ∨ o = 7 ∨ o = 8 ∨ o = 9 ∨ o = 10 ∨ o = 11 := by omega
  rcases this with rfl | rfl | rfl | rfl | rfl | rfl | rfl | rfl | rfl | rfl | rfl | rfl <;>
    simp (disch := omega) [honeycombref01_On.f, honeycombref01_On.j0, honeycombref01_On.l0, w64, rotN, rot0, turnP]
def rotO (o a b : Int) : Int × Int := rotN o a b (o % 6).toNat
theorem ref01On_any (o a b : Int) (w : World) (ho : 0 ≤ o) (ho' : o < 12) (ha : -2000000000000 ≤ a) (ha' : a ≤ 2000000000000) (hb : -2000000000000 ≤ b) (hb' : b ≤ 2000000000000) :
    Calls Tryd.prog 50 #[.int .i64 o, .int .i64 a, .int .i64 b] w fun e w' => e = .returned (.tuple #[.int .i64 (rotO o a b).1, .int .i64 (rotO o a b).2]) ∧ ∃ n, w' = w.drewN n :=
  (honeycombref01_On.calls 10 o a b _ _ w (ref01On_f o a b ho ho' ha ha' hb hb')).mono fun _ _ ⟨he, hd⟩ => ⟨he, hd.out⟩
theorem rot_bd (o a b : Int) (ho : 0 ≤ o) (ho' : o < 12) (ha : -2000000000000 ≤ a) (ha' : a ≤ 2000000000000) (hb : -2000000000000 ≤ b) (hb' : b ≤ 2000000000000) : (-4000000000000 ≤ (rotO o a b).1 ∧ (rotO o a b).1 ≤ 4000000000000) ∧ (-4000000000000 ≤ (rotO o a b).2 ∧ (rotO o a b).2 ≤ 4000000000000) := by
  unfold rotO
  have : o = 0 ∨ o = 1 ∨ o = 2 ∨ o = 3 ∨ o = 4 ∨ o = 5 ∨ o = 6 ∨ o = 7 ∨ o = 8 ∨ o = 9 ∨ o = 10 ∨ o = 11 := by omega
  rcases this with rfl | rfl | rfl | rfl | rfl | rfl | rfl | rfl | rfl | rfl | rfl | rfl <;> (simp [rotN, rot0, turnP]; omega)

/-- what the document's On makes of three points: the least coordinates, and the sum -/
def lowK (q : Nat → Int × Int) : Nat → Int × Int × Int
  | 0 => (1152921504606846976, 1152921504606846976, 0)
  | k + 1 => (min (lowK q k).1 (q k).1, min (lowK q k).2.1 (q k).2, (lowK q k).2.2 + ((q k).1 + (q k).2))
def cornA (a b h : Int) (k : Nat) : Int × Int := if h = 0 then (if k = 0 then (a, b) else if k = 1 then (a + 1, b) else (a, b + 1)) else (if k = 0 then (a + 1, b) else if k = 1 then (a, b + 1) else (a + 1, b + 1))
def rcorn (o a b h : Int) (k : Nat) : Int × Int := rotO o (cornA a b h k).1 (cornA a b h k).2
def refOnT (o a b h : Int) : Int × Int × Int := ((lowK (rcorn o a b h) 3).1, (lowK (rcorn o a b h) 3).2.1, if (lowK (rcorn o a b h) 3).2.2 - 3 * ((lowK (rcorn o a b h) 3).1 + (lowK (rcorn o a b h) 3).2.1) > 2 then 1 else 0)

theorem refOn_eq (o a b h : Int) (ho : 0 ≤ o) (ho' : o < 12) (hg : goodP a b) (hh : h = 0 ∨ h = 1) : refOnT o a b h = ((onT o a b h).f0.f0, (onT o a b h).f0.f1, (onT o a b h).f1) := by
  obtain ⟨g1, g2, g3, g4⟩ := hg
  have : o = 0 ∨ o = 1 ∨ o = 2 ∨ o = 3 ∨ o = 4 ∨ o = 5 ∨ o = 6 ∨ o = 7 ∨ o = 8 ∨ o = 9 ∨ o = 10 ∨ o = 11 := by omega
  rcases this with rfl | rfl | rfl | rfl | rfl | rfl | rfl | rfl | rfl | rfl | rfl | rfl <;> rcases hh with rfl | rfl <;>
    (simp [refOnT, lowK, rcorn, rotO, rotN, rot0, turnP, cornA, onT, thrN, thr0]; omega)
end Go.Proofs.YtdgjfkpjgllffaaDoor
