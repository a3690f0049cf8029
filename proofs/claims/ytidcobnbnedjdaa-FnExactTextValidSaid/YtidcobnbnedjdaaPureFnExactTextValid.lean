/- The pure statement of the law FnExactTextValid holds: for every input that meets the bounds in the statement, the printed function of the law, given enough rounds, answers true. -/
import Derived.Test.YtidcobnbnedjdaaPFnExactTextValidx1
namespace Go.Proofs.Ytidcobnbnedjdaa.Pure
open Go.RowKit Go.Proofs.Ytidcobnbnedjdaa.PFnExactTextValid Go.Proofs.YtidcobnbnedjdaaW.PrintWords Go.Proofs.YtidcobnbnedjdaaW.PrintLast Go.Proofs.YtidcobnbnedjdaaW.PrintMore
set_option linter.unusedVariables false
set_option linter.unusedSimpArgs false

theorem w64 {n : Int} (h0 : -9223372036854775808 ≤ n) (h1 : n < 9223372036854775808) : wrap64 n = n := by
  unfold wrap64; omega
theorem w64n {n : Nat} (h1 : n < 9223372036854775808) : wrap64 (n : Int) = (n : Int) := w64 (by omega) (by omega)
theorem w64s {n : Nat} (h1 : n + 1 < 9223372036854775808) : wrap64 ((n : Int) + 1) = ((n + 1 : Nat) : Int) := by
  rw [w64 (by omega) (by omega)]; rfl
theorem ev_const {α : Type} {g : Nat → Option α} {r : α} (h : ∀ k, g k = some r) : Ev g r := ⟨0, fun k _ => h k⟩
theorem ev_bind {α β : Type} {g : Nat → Option α} {f : Nat → α → Option β} {a : α} {r : β} (h : Ev g a) (k : Ev (fun n => f n a) r) :
    Ev (fun n => (g n).bind (fun x => f n x)) r := Ev.bind h k
theorem bt_nat (s : ByteArray) (i : Nat) : bt s (i : Int) = (bytesOf s).getD i 0 := by
  rw [← rd_bytesOf]; simp [rd]
theorem drop_cons (l : List Int) (i : Nat) (h : i < l.length) : l.drop i = l.getD i 0 :: l.drop (i + 1) := by
  rw [List.drop_eq_getElem_cons h]; simp [List.getD_eq_getElem?_getD, h]
theorem bytesOf_range (s : ByteArray) : ∀ x ∈ bytesOf s, 0 ≤ x ∧ x ≤ 255 := by
  intro x hx
  unfold bytesOf at hx
  obtain ⟨b, _, rfl⟩ := List.mem_map.1 hx
  have := b.toNat_lt
  omega
theorem getD_range (s : ByteArray) (i : Nat) : 0 ≤ (bytesOf s).getD i 0 ∧ (bytesOf s).getD i 0 ≤ 255 := by
  rw [← bt_nat]; exact bt_range _ _
theorem map_byte_inj : ∀ (a b : List UInt8), a.map (fun b => (b.toNat : Int)) = b.map (fun b => (b.toNat : Int)) → a = b
  | [], [], _ => rfl
  | [], _ :: _, h => by simp at h
  | _ :: _, [], h => by simp at h
  | x :: a, y :: b, h => by
    simp only [List.map_cons, List.cons.injEq] at h
    have h1 : x = y := UInt8.toNat_inj.1 (by omega)
    rw [h1, map_byte_inj a b h.2]
theorem bytesOf_inj {a b : ByteArray} (h : bytesOf a = bytesOf b) : a = b := by
  have := map_byte_inj _ _ h
  apply ByteArray.ext
  exact Array.toList_inj.1 this
theorem bytesOf_app (a b : ByteArray) : bytesOf (a ++ b) = bytesOf a ++ bytesOf b := by
  unfold bytesOf
  rw [ByteArray.data_append]; simp
theorem bytesOf_cut (s : ByteArray) (i j : Nat) : bytesOf (s.extract i j) = ((bytesOf s).take j).drop i := by
  unfold bytesOf
  rw [ByteArray.data_extract]
  simp [List.drop_take]
theorem bytesOf_str (xs : List Int) (h : ∀ x ∈ xs, 0 ≤ x ∧ x ≤ 255) : bytesOf (strOfNums xs) = xs := by
  unfold bytesOf strOfNums
  simp only [List.map_map]
  conv => rhs; rw [← List.map_id xs]
  apply List.map_congr_left
  intro x hx
  have := h x hx
  have e : x.toNat % 256 = x.toNat := Nat.mod_eq_of_lt (by omega)
  simp only [Function.comp, UInt8.toNat_ofNat', id]
  omega
theorem str_bytes (s : ByteArray) : strOfNums (bytesOf s) = s :=
  bytesOf_inj (bytesOf_str _ (bytesOf_range s))
theorem toList_data (a : ByteArray) : a.toList = a.data.toList := ByteArray.toList_eq a
theorem toList_iff {a b : ByteArray} : a.toList = b.toList ↔ bytesOf a = bytesOf b := by
  constructor
  · intro h
    unfold bytesOf
    rw [← toList_data, ← toList_data, h]
  · intro h
    rw [bytesOf_inj h]
theorem size_bytes (s : ByteArray) : s.size = (bytesOf s).length := (bytesOf_length s).symm

/-! texts: which bytes are plain -/
def okb (x : Int) : Bool := x == 10 || (decide (32 ≤ x) && decide (x ≤ 126))
def tv (l : List Int) : Bool := l.all okb && decide (l.length ≤ 20000)
theorem okb_ten : okb 10 = true := rfl
theorem okb_in (x : Int) (h : ¬ x = 10) : okb x = (decide (32 ≤ x) && decide (x ≤ 126)) := by
  unfold okb; rw [beq_eq_false_iff_ne.mpr h]; rfl

theorem l1In_eq (x : Int) : spec_l1In.f x 32 126 = some (decide (32 ≤ x) && decide (x ≤ 126)) := by
  unfold spec_l1In.f
  by_cases h : x ≥ 32
  · rw [if_pos h, decide_eq_true h]; rfl
  · rw [if_neg h, decide_eq_false h]; rfl
theorem spec_tv_l (s : ByteArray) (hs : s.size ≤ 140737488351232) : ∀ (l : List Int) (i : Nat), (bytesOf s).drop i = l → i ≤ s.size →
    Ev (fun k => spec_TextValid.l0 k s (i : Int)) (l.all okb && decide ((bytesOf s).length ≤ 20000)) := by
  intro l
  induction l with
  | nil =>
    intro i hl hi
    have hn : s.size = i := by
      have := List.drop_eq_nil_iff.1 hl
      rw [bytesOf_length] at this; omega
    refine Ev.step (fun k => by rw [spec_TextValid.l0]) (ev_const fun k => ?_)
    rw [if_neg (by omega), bytesOf_length]; simp; omega
  | cons x l ih =>
    intro i hl hi
    have hlt : i < s.size := by
      rcases Nat.lt_or_ge i s.size with h | h
      · exact h
      · rw [List.drop_eq_nil_iff.2 (by rw [bytesOf_length]; exact h)] at hl; cases hl
    have hd := drop_cons (bytesOf s) i (by rw [bytesOf_length]; exact hlt)
    rw [hd] at hl
    obtain ⟨hx, hl'⟩ := List.cons.inj hl
    have hr := getD_range s i
    have hb := bt_nat s i
    rw [hx] at hb hr
    have h1 := ih (i + 1) hl' (by omega)
    refine Ev.step (fun k => by rw [spec_TextValid.l0]) ?_
    simp only [hb, w64s (show i + 1 < 9223372036854775808 by omega), w64 (n := x) (by omega) (by omega), l1In_eq, Option.bind_some, show (i : Int) < (s.size : Int) by omega, show (0 : Int) ≤ (i : Int) by omega, if_true]
    by_cases h10 : x = 10
    · subst h10
      simp only [if_true, List.all_cons, okb_ten, Bool.true_and]; exact h1
    · simp only [h10, if_false, List.all_cons, okb_in x h10]
      cases hq : (decide (32 ≤ x) && decide (x ≤ 126))
      · simp; exact Ev.now _
      · simp; simpa using h1
theorem spec_tv (s : ByteArray) (hs : s.size ≤ 140737488351232) : Ev (fun k => spec_TextValid.f k s) (tv (bytesOf s)) := by
  have := spec_tv_l s hs (bytesOf s) 0 rfl (by omega)
  exact this

theorem in_eq (x : Int) : impl_in.f x 32 126 = some (decide (32 ≤ x) && decide (x ≤ 126)) := by
  unfold impl_in.f
  by_cases h : x ≥ 32
  · rw [if_pos h, decide_eq_true h]; rfl
  · rw [if_neg h, decide_eq_false h]; rfl
theorem impl_tv_l (s : ByteArray) (hs : s.size ≤ 140737488351232) : ∀ (l : List Int) (i : Nat), (bytesOf s).drop i = l → i ≤ s.size →
    Ev (fun k => impl_TextValid.l0 k s (i : Int)) (l.all okb && decide ((bytesOf s).length ≤ 20000)) := by
  intro l
  induction l with
  | nil =>
    intro i hl hi
    have hn : s.size = i := by
      have := List.drop_eq_nil_iff.1 hl
      rw [bytesOf_length] at this; omega
    refine Ev.step (fun k => by rw [impl_TextValid.l0]) (ev_const fun k => ?_)
    rw [if_neg (by omega), bytesOf_length]; simp; omega
  | cons x l ih =>
    intro i hl hi
    have hlt : i < s.size := by
      rcases Nat.lt_or_ge i s.size with h | h
      · exact h
      · rw [List.drop_eq_nil_iff.2 (by rw [bytesOf_length]; exact h)] at hl; cases hl
    have hd := drop_cons (bytesOf s) i (by rw [bytesOf_length]; exact hlt)
    rw [hd] at hl
    obtain ⟨hx, hl'⟩ := List.cons.inj hl
    have hr := getD_range s i
    have hb := bt_nat s i
    rw [hx] at hb hr
    have h1 := ih (i + 1) hl' (by omega)
    refine Ev.step (fun k => by rw [impl_TextValid.l0]) ?_
    simp only [hb, w64s (show i + 1 < 9223372036854775808 by omega), w64 (n := x) (by omega) (by omega), in_eq, Option.bind_some, show (i : Int) < (s.size : Int) by omega, show (0 : Int) ≤ (i : Int) by omega, if_true]
    by_cases h10 : x = 10
    · subst h10
      simp only [if_true, List.all_cons, okb_ten, Bool.true_and]; exact h1
    · simp only [h10, if_false, List.all_cons, okb_in x h10]
      cases hq : (decide (32 ≤ x) && decide (x ≤ 126))
      · simp; exact Ev.now _
      · simp; simpa using h1
theorem impl_tv (s : ByteArray) (hs : s.size ≤ 140737488351232) : Ev (fun k => impl_TextValid.f k s) (tv (bytesOf s)) := by
  have := impl_tv_l s hs (bytesOf s) 0 rfl (by omega)
  exact this

theorem FnExactTextValid : laws_FnExactTextValid.Pure := by
  intro s hs
  apply Ev.rounds
  unfold laws_FnExactTextValid.f
  by_cases h : (s.size : Int) > 1048576
  · simp only [if_pos h]; exact Ev.now _
  · simp only [if_neg h]
    refine ev_bind (spec_tv s hs) (ev_bind (impl_tv s hs) (ev_const fun k => ?_))
    simp

end Go.Proofs.Ytidcobnbnedjdaa.Pure
