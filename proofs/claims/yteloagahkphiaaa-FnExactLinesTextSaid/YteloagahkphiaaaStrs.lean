/- A slice of strings among the arguments, read as one list of strings, in the print's own words. -/
import Derived.SliceStrings
import Derived.Test.YteloagahkphiaaaWSized
import Derived.Test.YteloagahkphiaaaWWords
namespace Go.Proofs.Yteloagahkphiaaa.Strs
open Go.RowKit Go.Proofs.YteloagahkphiaaaW.PrintWords Go.ChangeShapes Go.WideShapes
/-- What is known of such an argument. -/
def Reads (W : World) (a : Option Addr) (len cap : Nat) (l : List ByteArray) : Prop :=
  Kd.C Kd.string W a len l ∧ len ≤ cap ∧ len * 16 ≤ 140737488351232 ∧ ∀ s ∈ l, s.size ≤ 9223372036854775807
theorem opens {H : Type} {enc : TypeId × Value → H} {P : Program} {W : World} {base : Nat} {spare : Nat → Bool} {held : Bool} {t e : TypeId} {a : Option Addr} {len cap : Nat} {d : DataW H} {ps : List MemPlace} {ts : List TypeId} {ds : List (DataW H)} {j : Nat}
    (hsz : (DataW.weightsEach P ts ds).all (· ≤ reachBytes) = true) (ht : ts[j]? = some t) (hd : ds[j]? = some d) (hu : P.underlying t = some (.slice e)) (he : P.underlying e = some .string) (hc : P.cellsOf e = 1) (hB : P.bytesOf e = 16)
    (h : DataW.Trod enc P W base spare held t (.slice a len cap) d ps) : ∃ l : List ByteArray, l.length = len ∧ Reads W a len cap l := by
  obtain ⟨fuel, hf⟩ := h
  rcases open_strings hu he hc hf with ⟨hcs, _⟩ | ⟨x, l, c, ss, hcs, _, hl, hm, hz, hx, hcell, hsize⟩
  · simp [Value.cells] at hcs
    obtain ⟨rfl, rfl, rfl⟩ := hcs
    exact ⟨[], rfl, ⟨rfl, by omega, fun h => absurd h (by omega)⟩, by omega, by omega, fun _ h => by cases h⟩
  · simp [Value.cells] at hcs
    obtain ⟨rfl, rfl, rfl⟩ := hcs
    have hl2 : len ≤ ss.length := by
      rw [hz]
      split
      · exact hl
      · exact Nat.le_refl _
    have hlen : (ss.take len).length = len := by rw [List.length_take]; omega
    have hb : len * 16 ≤ 140737488351232 := by
      obtain ⟨hx, _⟩ := Prod.mk.inj hx
      subst hx
      have z := sized_slice hsz ht hd hu
      rw [hB] at z
      have h1 : (strs (H := H) (ss.take len)).length + (strs (H := H) (ss.drop len)).length = ss.length := by
        simp [strs]
        omega
      rw [h1] at z
      exact Nat.le_trans (Nat.mul_le_mul_right _ hl2) z
    refine ⟨ss.take len, hlen, ⟨hlen, by omega, fun _ => ⟨x, rfl, fun j p hj => ?_⟩⟩, hl, hb, fun s hs => hsize s (List.mem_of_mem_take hs)⟩
    have hj' : j < len := by
      have := (List.getElem?_eq_some_iff.1 hj).1
      omega
    rw [List.getElem?_take_of_lt hj'] at hj
    have hp : ss.getD j ByteArray.empty = p := by rw [List.getD_eq_getElem?_getD, hj]; rfl
    refine ⟨[.string p], rfl, rfl, fun i u hi => ?_⟩
    cases i with
    | zero =>
      obtain rfl : Value.string p = u := by simpa using hi
      show W.cell? (x.add (j * 1 + 0)) = _
      rw [Nat.mul_one, Nat.add_zero, hcell j (by omega), hp]
    | succ i => simp at hi
end Go.Proofs.Yteloagahkphiaaa.Strs
