/- Functions of Go's library by hand: what each returns at the arguments that this program gives it, and the contract of the call, by the shelf's contract. Where a function here answers none nothing is said. -/
import Derived.Test.YteloagahkphiaaaShelf
import Derived.Test.YteloagahkphiaaaWWords
namespace Go.Proofs.Yteloagahkphiaaa.Hand
open Go.RowKit Go.Proofs.YteloagahkphiaaaW.PrintWords
set_option linter.unusedVariables false
set_option linter.unusedSimpArgs false
theorem one_byte {a : ByteArray} (h : a.size = 1) : ∃ c, a = (⟨#[c]⟩ : ByteArray) := by
  obtain ⟨⟨l⟩⟩ := a
  match l, h with
  | [c], _ => exact ⟨c, rfl⟩
theorem one_get (c : UInt8) : (⟨#[c]⟩ : ByteArray).data.toList.getD 0 0 = c := rfl
/-! strings.Contains at a substr of one byte -/
def strings_Contains.f (a0 : ByteArray) (a1 : ByteArray) : Option (Bool) := if a1.size = 1 then some (decide (0 ≤ Lib.indexByte a0.data.toList (a1.data.toList.getD 0 0))) else none
theorem strings_Contains.calls (a0 : ByteArray) (a1 : ByteArray) (r : Bool) (w : World) (h : strings_Contains.f a0 a1 = some r) :
    Calls Try.prog 26 #[.string a0, .string a1] w fun e w' => e = .returned (.bool r) ∧ Drawn0 w w' := by
  unfold strings_Contains.f at h
  by_cases h1 : a1.size = 1
  · rw [if_pos h1] at h
    obtain rfl := Option.some.inj h
    obtain ⟨c, rfl⟩ := one_byte h1
    exact (Try.strings_Contains_one a0 c w).mono fun e w' ⟨he, hw⟩ => ⟨he, by rw [hw]; exact Drawn0.refl _⟩
  · rw [if_neg h1] at h; cases h
/-! strings.Count at a substr of one byte -/
def strings_Count.f (a0 : ByteArray) (a1 : ByteArray) : Option (Int) := if a1.size = 1 then some ((Lib.countByte a0.data.toList (a1.data.toList.getD 0 0) : Int)) else none
theorem strings_Count.calls (a0 : ByteArray) (a1 : ByteArray) (r : Int) (w : World) (h : strings_Count.f a0 a1 = some r) :
    Calls Try.prog 21 #[.string a0, .string a1] w fun e w' => e = .returned (.int .i64 r) ∧ Drawn0 w w' := by
  unfold strings_Count.f at h
  by_cases h1 : a1.size = 1
  · rw [if_pos h1] at h
    obtain rfl := Option.some.inj h
    obtain ⟨c, rfl⟩ := one_byte h1
    exact (Try.strings_Count_one a0 c w).mono fun e w' ⟨he, hw⟩ => ⟨he, by rw [hw]; exact Drawn0.refl _⟩
  · rw [if_neg h1] at h; cases h
/-! strings.Index at a substr of one byte -/
def strings_Index.f (a0 : ByteArray) (a1 : ByteArray) : Option (Int) := if a1.size = 1 then some (Lib.indexByte a0.data.toList (a1.data.toList.getD 0 0)) else none
theorem strings_Index.calls (a0 : ByteArray) (a1 : ByteArray) (r : Int) (w : World) (h : strings_Index.f a0 a1 = some r) :
    Calls Try.prog 29 #[.string a0, .string a1] w fun e w' => e = .returned (.int .i64 r) ∧ Drawn0 w w' := by
  unfold strings_Index.f at h
  by_cases h1 : a1.size = 1
  · rw [if_pos h1] at h
    obtain rfl := Option.some.inj h
    obtain ⟨c, rfl⟩ := one_byte h1
    exact (Try.strings_Index_one a0 c w).mono fun e w' ⟨he, hw⟩ => ⟨he, by rw [hw]; exact Drawn0.refl _⟩
  · rw [if_neg h1] at h; cases h
/-! internal/stringslite.Index at a substr of one byte -/
def stringslite_Index.f (a0 : ByteArray) (a1 : ByteArray) : Option (Int) := if a1.size = 1 then some (Lib.indexByte a0.data.toList (a1.data.toList.getD 0 0)) else none
theorem stringslite_Index.calls (a0 : ByteArray) (a1 : ByteArray) (r : Int) (w : World) (h : stringslite_Index.f a0 a1 = some r) :
    Calls Try.prog 33 #[.string a0, .string a1] w fun e w' => e = .returned (.int .i64 r) ∧ Drawn0 w w' := by
  unfold stringslite_Index.f at h
  by_cases h1 : a1.size = 1
  · rw [if_pos h1] at h
    obtain rfl := Option.some.inj h
    obtain ⟨c, rfl⟩ := one_byte h1
    exact (Try.stringslite_Index_one a0 c w).mono fun e w' ⟨he, hw⟩ => ⟨he, by rw [hw]; exact Drawn0.refl _⟩
  · rw [if_neg h1] at h; cases h
/-! strings.LastIndex -/
def strings_LastIndex.f (a0 : ByteArray) (a1 : ByteArray) : Option (Int) := if a0.size < 4611686018427387904 then some (Lib.lastIndex a0.data.toList a1.data.toList) else none
theorem strings_LastIndex.calls (a0 : ByteArray) (a1 : ByteArray) (r : Int) (w : World) (h : strings_LastIndex.f a0 a1 = some r) :
    Calls Try.prog 22 #[.string a0, .string a1] w fun e w' => e = .returned (.int .i64 r) ∧ Drawn0 w w' := by
  unfold strings_LastIndex.f at h
  by_cases h1 : a0.size < 4611686018427387904
  · rw [if_pos h1] at h
    obtain rfl := Option.some.inj h
    exact (Try.strings_LastIndex a0 a1 h1 w).mono fun e w' ⟨he, hw⟩ => ⟨he, by rw [hw]; exact Drawn0.refl _⟩
  · rw [if_neg h1] at h; cases h
end Go.Proofs.Yteloagahkphiaaa.Hand
