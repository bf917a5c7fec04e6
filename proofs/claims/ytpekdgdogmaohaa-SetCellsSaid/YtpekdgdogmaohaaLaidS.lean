/- Slices among a law's arguments, opened as rows of this seat's kinds. -/
import Derived.Test.YtpekdgdogmaohaaH0
import Derived.ProofKit
import Derived.OpenShut
import Derived.ChangeArms
import Derived.SizedLaws
import Derived.Carry
import Derived.Deep.Slices
import Derived.Deep.Fields
namespace Go.Proofs.Ytpekdgdogmaohaa
open Go.RowKit Go.Proofs.YtpekdgdogmaohaaW.PrintWords Go.Proofs.YtpekdgdogmaohaaW.PrintLast Go.Proofs.YtpekdgdogmaohaaW.PrintMore
open H
open Go.ChangeShapes Go.WideShapes Go.ChangeAt Go.Deep

section
variable {T : Type} {enc : TypeId × Value → T} {P : Program} {w : World} {base : Nat} {spare : Nat → Bool} {held : Bool}
theorem open_rows {α : Type} {d : Kd α} {t e : TypeId} {a : Option Addr} {len cap : Nat} {x : DataW T} {p : List MemPlace} {ts : List TypeId} {ds : List (DataW T)} {j : Nat}
    (hsz : (DataW.weightsEach P ts ds).all (· ≤ reachBytes) = true) (hj : ts[j]? = some t) (hd : ds[j]? = some x) (ht : P.underlying t = some (.slice e)) (hc : P.cellsOf e = d.sz)
    (hel : ∀ (fuel : Nat) (cs : List Value) (y : DataW T × List MemPlace), DataW.trod enc P w base spare held fuel e cs = some y → ∃ z, d.K w z cs)
    (h : DataW.Trod enc P w base spare held t (.slice a len cap) x p) : ∃ l : List α, l.length = len ∧ len ≤ cap ∧ Kd.C d w a len l ∧ len * P.bytesOf e ≤ 140737488351232 := by
  obtain ⟨fuel, hf⟩ := h
  rcases open_slice ht hf with ⟨hcs, hx⟩ | ⟨a', len', cap', m, n, D, Pl, hcs, _, hl, hm, hmm, hx, hi⟩
  · simp [Value.cells] at hcs
    obtain ⟨rfl, rfl, rfl⟩ := hcs
    exact ⟨[], rfl, Nat.le_refl _, ⟨rfl, by omega, fun h => absurd h (by omega)⟩, by simp⟩
  · simp [Value.cells] at hcs
    obtain ⟨rfl, rfl, rfl⟩ := hcs
    have hlm : len ≤ m := by rw [hmm]; split <;> omega
    have key : ∀ i, i < m → ∃ z cs', d.K w z cs' ∧ cs'.length = d.sz ∧ ∀ u v, cs'[u]? = some v → w.cell? (a'.add (i * d.sz + u)) = some v := by
      intro i him
      obtain ⟨cs', hcl, htr⟩ := hi i him
      rw [hc] at hcl
      obtain ⟨z, hz⟩ := hel _ _ _ htr
      obtain ⟨_, hln, hat⟩ := World.cells?_some hcl
      refine ⟨z, cs', hz, d.K_len hz, fun u v huv => ?_⟩
      have hlt : u < cs'.length := (List.getElem?_eq_some_iff.1 huv).1
      have := hat u (by omega)
      rw [huv] at this
      rw [← Go.Deep.add_add]
      exact this
    have hsl : len * P.bytesOf e ≤ 140737488351232 := by
      obtain ⟨hx1, _⟩ := Prod.mk.inj hx
      subst hx1
      have z := sized_slice hsz hj hd ht
      rw [List.length_map, List.length_range, List.length_map, List.length_range] at z
      exact Nat.le_trans (Nat.mul_le_mul_right _ (Nat.le_add_right _ _)) z
    have hmx : cap ≤ 9223372036854775807 := by
      have : maxLen ≤ 9223372036854775807 := by decide
      omega
    refine ⟨List.ofFn fun i : Fin len => (key i.1 (by have := i.2; omega)).choose, by simp, hl, ⟨by simp, by omega, fun h0 => ⟨a', rfl, fun j p hp => ?_⟩⟩, hsl⟩
    rw [List.getElem?_ofFn] at hp
    split at hp
    · obtain ⟨cs', hK, hlen, hat⟩ := (key j (by omega)).choose_spec
      rw [Option.some.inj hp] at hK
      exact ⟨cs', hlen, hK, fun u v huv => hat u v huv⟩
    · cases hp
end
end Go.Proofs.Ytpekdgdogmaohaa
