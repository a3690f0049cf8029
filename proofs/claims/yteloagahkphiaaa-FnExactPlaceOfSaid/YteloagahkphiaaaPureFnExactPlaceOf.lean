/- The pure statement of the law FnExactPlaceOf holds: for every input that meets the bounds in the statement, the printed function of the law, given enough rounds, answers true. -/
import Derived.Test.YteloagahkphiaaaPFnExactPlaceOfx1
namespace Go.Proofs.Yteloagahkphiaaa.Pure
open Go.RowKit Go.Proofs.Yteloagahkphiaaa.PFnExactPlaceOf Go.Proofs.YteloagahkphiaaaW.PrintWords Go.Proofs.YteloagahkphiaaaW.PrintLast Go.Proofs.YteloagahkphiaaaW.PrintMore Go.Proofs.Yteloagahkphiaaa.Hand
set_option linter.unusedVariables false
set_option linter.unusedSimpArgs false

theorem w64 {n : Int} (h0 : -9223372036854775808 ≤ n) (h1 : n < 9223372036854775808) : wrap64 n = n := by
  unfold wrap64; omega
theorem w64n {n : Nat} (h1 : n < 9223372036854775808) : wrap64 (n : Int) = (n : Int) := w64 (by omega) (by omega)
theorem w64s {n : Nat} (h1 : n + 1 < 9223372036854775808) : wrap64 ((n : Int) + 1) = ((n + 1 : Nat) : Int) := by
  rw [w64 (by omega) (by omega)]; rfl
theorem ev_const {α : Type} {g : Nat → Option α} {r : α} (h : ∀ k, g k = some r) : Ev g r := ⟨0, fun k _ => h k⟩
theorem ev_bind {α β : Type} {g : Nat → Option α} {f : Nat → α → Option β} {a : α} {r : β} (h : Ev g a) (k : Ev (fun n => f n a) r) :
    Ev (fun n => (g n).bind (fun x => f n x)) r := Ev.bind h k
theorem bt_nat (s : ByteArray) (i : Nat) : bt s (i : Int) = (bytesOf s).getD i 0 := by
  rw [← rd_bytesOf]; simp [rd]
theorem drop_cons (l : List Int) (i : Nat) (h : i < l.length) : l.drop i = l.getD i 0 :: l.drop (i + 1) := by
  rw [List.drop_eq_getElem_cons h]; simp [List.getD_eq_getElem?_getD, h]
theorem bytesOf_range (s : ByteArray) : ∀ x ∈ bytesOf s, 0 ≤ x ∧ x ≤ 255 := by
  intro x hx
  unfold bytesOf at hx
  obtain ⟨b, _, rfl⟩ := List.mem_map.1 hx
  have := b.toNat_lt
  omega
theorem getD_range (s : ByteArray) (i : Nat) : 0 ≤ (bytesOf s).getD i 0 ∧ (bytesOf s).getD i 0 ≤ 255 := by
  rw [← bt_nat]; exact bt_range _ _
theorem map_byte_inj : ∀ (a b : List UInt8), a.map (fun b => (b.toNat : Int)) = b.map (fun b => (b.toNat : Int)) → a = b
  | [], [], _ => rfl
  | [], _ :: _, h => by simp at h
  | _ :: _, [], h => by simp at h
  | x :: a, y :: b, h => by
    simp only [List.map_cons, List.cons.injEq] at h
    have h1 : x = y := UInt8.toNat_inj.1 (by omega)
    rw [h1, map_byte_inj a b h.2]
theorem bytesOf_inj {a b : ByteArray} (h : bytesOf a = bytesOf b) : a = b := by
  have := map_byte_inj _ _ h
  apply ByteArray.ext
  exact Array.toList_inj.1 this
theorem bytesOf_app (a b : ByteArray) : bytesOf (a ++ b) = bytesOf a ++ bytesOf b := by
  unfold bytesOf
  rw [ByteArray.data_append]; simp
theorem bytesOf_cut (s : ByteArray) (i j : Nat) : bytesOf (s.extract i j) = ((bytesOf s).take j).drop i := by
  unfold bytesOf
  rw [ByteArray.data_extract]
  simp [List.drop_take]
theorem bytesOf_str (xs : List Int) (h : ∀ x ∈ xs, 0 ≤ x ∧ x ≤ 255) : bytesOf (strOfNums xs) = xs := by
  unfold bytesOf strOfNums
  simp only [List.map_map]
  conv => rhs; rw [← List.map_id xs]
  apply List.map_congr_left
  intro x hx
  have := h x hx
  have e : x.toNat % 256 = x.toNat := Nat.mod_eq_of_lt (by omega)
  simp only [Function.comp, UInt8.toNat_ofNat', id]
  omega
theorem str_bytes (s : ByteArray) : strOfNums (bytesOf s) = s :=
  bytesOf_inj (bytesOf_str _ (bytesOf_range s))
theorem toList_data (a : ByteArray) : a.toList = a.data.toList := ByteArray.toList_eq a
theorem toList_iff {a b : ByteArray} : a.toList = b.toList ↔ bytesOf a = bytesOf b := by
  constructor
  · intro h
    unfold bytesOf
    rw [← toList_data, ← toList_data, h]
  · intro h
    rw [bytesOf_inj h]
theorem size_bytes (s : ByteArray) : s.size = (bytesOf s).length := (bytesOf_length s).symm

/-! line ends in a text: how many before a place, and the last one -/
def lastNl (L : List Int) : Nat → Int
  | 0 => -1
  | k + 1 => if L.getD k 0 = 10 then (k : Int) else lastNl L k
def cntNl (L : List Int) : Nat → Nat
  | 0 => 0
  | k + 1 => cntNl L k + (if L.getD k 0 = 10 then 1 else 0)
theorem lastNl_bd (L : List Int) : ∀ k, -1 ≤ lastNl L k ∧ lastNl L k < k
  | 0 => by unfold lastNl; omega
  | k + 1 => by
    have := lastNl_bd L k
    unfold lastNl
    split <;> omega
theorem cntNl_bd (L : List Int) : ∀ k, cntNl L k ≤ k
  | 0 => by unfold cntNl; omega
  | k + 1 => by
    have := cntNl_bd L k
    unfold cntNl
    split <;> omega
theorem lastNl_take (L : List Int) (n : Nat) : ∀ k, k ≤ n → lastNl (L.take n) k = lastNl L k
  | 0, _ => rfl
  | k + 1, h => by
    unfold lastNl
    rw [lastNl_take L n k (by omega)]
    have : (L.take n).getD k 0 = L.getD k 0 := by
      simp only [List.getD_eq_getElem?_getD, List.getElem?_take]
      rw [if_pos (by omega)]
    rw [this]
theorem cntNl_take (L : List Int) (n : Nat) : ∀ k, k ≤ n → cntNl (L.take n) k = cntNl L k
  | 0, _ => rfl
  | k + 1, h => by
    unfold cntNl
    rw [cntNl_take L n k (by omega)]
    have : (L.take n).getD k 0 = L.getD k 0 := by
      simp only [List.getD_eq_getElem?_getD, List.getElem?_take]
      rw [if_pos (by omega)]
    rw [this]
theorem getD_map (l : List UInt8) (k : Nat) (c : UInt8) (hc : c ≠ 0) : ((l.map fun b => (b.toNat : Int)).getD k 0 = (c.toNat : Int)) ↔ l[k]? = some c := by
  simp only [List.getD_eq_getElem?_getD, List.getElem?_map]
  cases h : l[k]? with
  | none =>
    simp
    intro e
    apply hc
    exact UInt8.toNat_inj.1 (by simp; omega)
  | some b =>
    simp
    constructor
    · intro e; exact UInt8.toNat_inj.1 (by omega)
    · intro e; rw [e]
theorem cnt_count (l : List UInt8) : ∀ n, n ≤ l.length → (l.take n).count 10 = cntNl (l.map fun b => (b.toNat : Int)) n
  | 0, _ => rfl
  | n + 1, h => by
    have hg : ((l.map fun b => (b.toNat : Int)).getD n 0 = 10) ↔ l[n]? = some 10 := getD_map l n 10 (by decide)
    have e1 : cntNl (l.map fun b => (b.toNat : Int)) (n + 1) = cntNl (l.map fun b => (b.toNat : Int)) n + (if (l.map fun b => (b.toNat : Int)).getD n 0 = 10 then 1 else 0) := rfl
    rw [List.take_succ_eq_append_getElem (by omega), List.count_append, cnt_count l n (by omega), e1]
    rw [List.getElem?_eq_getElem (by omega)] at hg
    congr 1
    by_cases e : l[n] = 10
    · rw [if_pos (hg.2 (by rw [e]))]; simp [e]
    · rw [if_neg (fun h => e (Option.some.inj (hg.1 h)))]; simp [e]
theorem count_bytes (s : ByteArray) : (Lib.countByte s.data.toList 10 : Int) = (cntNl (bytesOf s) s.size : Int) := by
  unfold Lib.countByte bytesOf
  have := cnt_count s.data.toList s.size (by rw [data_length]; omega)
  rw [List.take_of_length_le (by rw [data_length]; omega)] at this
  rw [this]
theorem occ_one (l : List UInt8) (k : Nat) : Lib.occAt l [10] k = true ↔ l[k]? = some 10 := by
  unfold Lib.occAt
  rcases Nat.lt_or_ge k l.length with h | h
  · rw [List.drop_eq_getElem_cons h, List.getElem?_eq_getElem h]
    simp [List.isPrefixOf]
    exact eq_comm
  · rw [List.drop_eq_nil_iff.2 h, List.getElem?_eq_none h]
    simp [List.isPrefixOf]
theorem lastOcc_nl (l : List UInt8) : ∀ k, Lib.lastOcc l [10] k = lastNl (l.map fun b => (b.toNat : Int)) k
  | 0 => rfl
  | k + 1 => by
    have hg : ((l.map fun b => (b.toNat : Int)).getD k 0 = 10) ↔ l[k]? = some 10 := getD_map l k 10 (by decide)
    have ho := occ_one l k
    rw [lastNl]
    by_cases e : l[k]? = some 10
    · rw [if_pos (hg.2 e)]; exact Lib.lastOcc_hit _ _ _ (ho.2 e)
    · rw [if_neg (fun h => e (hg.1 h)), ← lastOcc_nl l k]
      refine Lib.lastOcc_miss _ _ _ ?_
      rw [Bool.eq_false_iff]; exact fun h => e (ho.1 h)
theorem last_bytes (s : ByteArray) : Lib.lastIndex s.data.toList [10] = lastNl (bytesOf s) s.size := by
  unfold Lib.lastIndex bytesOf
  rw [lastOcc_nl]
  rw [data_length]
  by_cases h : s.size = 0
  · rw [h]; rfl
  · rw [if_pos (by simp; omega)]
    congr 1
    simp; omega

/-! texts: which bytes are plain -/
def okb (x : Int) : Bool := x == 10 || (decide (32 ≤ x) && decide (x ≤ 126))
def tv (l : List Int) : Bool := l.all okb && decide (l.length ≤ 20000)
theorem okb_ten : okb 10 = true := rfl
theorem okb_in (x : Int) (h : ¬ x = 10) : okb x = (decide (32 ≤ x) && decide (x ≤ 126)) := by
  unfold okb; rw [beq_eq_false_iff_ne.mpr h]; rfl

theorem l1In_eq (x : Int) : spec_l1In.f x 32 126 = some (decide (32 ≤ x) && decide (x ≤ 126)) := by
  unfold spec_l1In.f
  by_cases h : x ≥ 32
  · rw [if_pos h, decide_eq_true h]; rfl
  · rw [if_neg h, decide_eq_false h]; rfl
theorem spec_tv_l (s : ByteArray) (hs : s.size ≤ 140737488351232) : ∀ (l : List Int) (i : Nat), (bytesOf s).drop i = l → i ≤ s.size →
    Ev (fun k => spec_TextValid.l0 k s (i : Int)) (l.all okb && decide ((bytesOf s).length ≤ 20000)) := by
  intro l
  induction l with
  | nil =>
    intro i hl hi
    have hn : s.size = i := by
      have := List.drop_eq_nil_iff.1 hl
      rw [bytesOf_length] at this; omega
    refine Ev.step (fun k => by rw [spec_TextValid.l0]) (ev_const fun k => ?_)
    rw [if_neg (by omega), bytesOf_length]; simp; omega
  | cons x l ih =>
    intro i hl hi
    have hlt : i < s.size := by
      rcases Nat.lt_or_ge i s.size with h | h
      · exact h
      · rw [List.drop_eq_nil_iff.2 (by rw [bytesOf_length]; exact h)] at hl; cases hl
    have hd := drop_cons (bytesOf s) i (by rw [bytesOf_length]; exact hlt)
    rw [hd] at hl
    obtain ⟨hx, hl'⟩ := List.cons.inj hl
    have hr := getD_range s i
    have hb := bt_nat s i
    rw [hx] at hb hr
    have h1 := ih (i + 1) hl' (by omega)
    refine Ev.step (fun k => by rw [spec_TextValid.l0]) ?_
    simp only [hb, w64s (show i + 1 < 9223372036854775808 by omega), w64 (n := x) (by omega) (by omega), l1In_eq, Option.bind_some, show (i : Int) < (s.size : Int) by omega, show (0 : Int) ≤ (i : Int) by omega, if_true]
    by_cases h10 : x = 10
    · subst h10
      simp only [if_true, List.all_cons, okb_ten, Bool.true_and]; exact h1
    · simp only [h10, if_false, List.all_cons, okb_in x h10]
      cases hq : (decide (32 ≤ x) && decide (x ≤ 126))
      · simp; exact Ev.now _
      · simp; simpa using h1
theorem spec_tv (s : ByteArray) (hs : s.size ≤ 140737488351232) : Ev (fun k => spec_TextValid.f k s) (tv (bytesOf s)) := by
  have := spec_tv_l s hs (bytesOf s) 0 rfl (by omega)
  exact this

theorem in_eq (x : Int) : impl_in.f x 32 126 = some (decide (32 ≤ x) && decide (x ≤ 126)) := by
  unfold impl_in.f
  by_cases h : x ≥ 32
  · rw [if_pos h, decide_eq_true h]; rfl
  · rw [if_neg h, decide_eq_false h]; rfl
theorem impl_tv_l (s : ByteArray) (hs : s.size ≤ 140737488351232) : ∀ (l : List Int) (i : Nat), (bytesOf s).drop i = l → i ≤ s.size →
    Ev (fun k => impl_TextValid.l0 k s (i : Int)) (l.all okb && decide ((bytesOf s).length ≤ 20000)) := by
  intro l
  induction l with
  | nil =>
    intro i hl hi
    have hn : s.size = i := by
      have := List.drop_eq_nil_iff.1 hl
      rw [bytesOf_length] at this; omega
    refine Ev.step (fun k => by rw [impl_TextValid.l0]) (ev_const fun k => ?_)
    rw [if_neg (by omega), bytesOf_length]; simp; omega
  | cons x l ih =>
    intro i hl hi
    have hlt : i < s.size := by
      rcases Nat.lt_or_ge i s.size with h | h
      · exact h
      · rw [List.drop_eq_nil_iff.2 (by rw [bytesOf_length]; exact h)] at hl; cases hl
    have hd := drop_cons (bytesOf s) i (by rw [bytesOf_length]; exact hlt)
    rw [hd] at hl
    obtain ⟨hx, hl'⟩ := List.cons.inj hl
    have hr := getD_range s i
    have hb := bt_nat s i
    rw [hx] at hb hr
    have h1 := ih (i + 1) hl' (by omega)
    refine Ev.step (fun k => by rw [impl_TextValid.l0]) ?_
    simp only [hb, w64s (show i + 1 < 9223372036854775808 by omega), w64 (n := x) (by omega) (by omega), in_eq, Option.bind_some, show (i : Int) < (s.size : Int) by omega, show (0 : Int) ≤ (i : Int) by omega, if_true]
    by_cases h10 : x = 10
    · subst h10
      simp only [if_true, List.all_cons, okb_ten, Bool.true_and]; exact h1
    · simp only [h10, if_false, List.all_cons, okb_in x h10]
      cases hq : (decide (32 ≤ x) && decide (x ≤ 126))
      · simp; exact Ev.now _
      · simp; simpa using h1
theorem impl_tv (s : ByteArray) (hs : s.size ≤ 140737488351232) : Ev (fun k => impl_TextValid.f k s) (tv (bytesOf s)) := by
  have := impl_tv_l s hs (bytesOf s) 0 rfl (by omega)
  exact this

def placeV (s : ByteArray) (at_ : Int) : Int × Int :=
  if tv (bytesOf s) = true ∧ 0 ≤ at_ ∧ at_ ≤ (s.size : Int) then ((cntNl (bytesOf s) at_.toNat : Int), at_ - lastNl (bytesOf s) at_.toNat - 1) else (-1, -1)
theorem placeV_yes {s : ByteArray} {n : Nat} (ht : tv (bytesOf s) = true) (h : (n : Int) ≤ (s.size : Int)) : placeV s (n : Int) = ((cntNl (bytesOf s) n : Int), (n : Int) - lastNl (bytesOf s) n - 1) := by
  unfold placeV
  rw [if_pos ⟨ht, by omega, h⟩, Int.toNat_natCast]
theorem placeV_no {s : ByteArray} {a : Int} (h : ¬ (tv (bytesOf s) = true ∧ 0 ≤ a ∧ a ≤ (s.size : Int))) : placeV s a = (-1, -1) := by
  unfold placeV
  rw [if_neg h]
theorem spec_place_l (s : ByteArray) (hs : s.size ≤ 140737488351232) (n : Nat) (hn : n ≤ s.size) : ∀ (d i : Nat), i + d = n →
    Ev (fun k => spec_PlaceOf.l0 k s (n : Int) (cntNl (bytesOf s) i : Int) (lastNl (bytesOf s) i + 1) (i : Int)) ((cntNl (bytesOf s) n : Int), (n : Int) - lastNl (bytesOf s) n - 1) := by
  intro d
  induction d with
  | zero =>
    intro i hi
    obtain rfl : i = n := by omega
    have b := lastNl_bd (bytesOf s) i
    refine Ev.step (fun k => by rw [spec_PlaceOf.l0]) ?_
    simp only [if_neg (show ¬ (i : Int) < (i : Int) by omega), w64 (n := (i : Int) - (lastNl (bytesOf s) i + 1)) (by omega) (by omega)]
    refine ev_const fun k => ?_
    rw [show (i : Int) - (lastNl (bytesOf s) i + 1) = (i : Int) - lastNl (bytesOf s) i - 1 by omega]
  | succ d ih =>
    intro i hi
    have b := lastNl_bd (bytesOf s) i
    have c := cntNl_bd (bytesOf s) i
    have hb := bt_nat s i
    have h1 := ih (i + 1) (by omega)
    refine Ev.step (fun k => by rw [spec_PlaceOf.l0]) ?_
    simp only [if_pos (show (i : Int) < (n : Int) by omega), if_pos (show (0 : Int) ≤ (i : Int) by omega), if_pos (show (i : Int) < (s.size : Int) by omega), hb,
      w64s (show i + 1 < 9223372036854775808 by omega), w64s (show cntNl (bytesOf s) i + 1 < 9223372036854775808 by omega)]
    rw [cntNl, lastNl] at h1
    by_cases e : (bytesOf s).getD i 0 = 10
    · simp only [if_pos e] at h1 ⊢
      exact h1
    · simp only [if_neg e] at h1 ⊢
      exact h1
theorem l1In_gen (a b c : Int) : spec_l1In.f a b c = some (decide (b ≤ a ∧ a ≤ c)) := by
  unfold spec_l1In.f
  by_cases h : a ≥ b
  · rw [if_pos h]
    by_cases h2 : a ≤ c
    · rw [decide_eq_true h2, decide_eq_true (by omega)]
    · rw [decide_eq_false h2, decide_eq_false (by omega)]
  · rw [if_neg h, decide_eq_false (by omega)]
theorem in_gen (a b c : Int) : impl_in.f a b c = some (decide (b ≤ a ∧ a ≤ c)) := by
  unfold impl_in.f
  by_cases h : a ≥ b
  · rw [if_pos h]
    by_cases h2 : a ≤ c
    · rw [decide_eq_true h2, decide_eq_true (by omega)]
    · rw [decide_eq_false h2, decide_eq_false (by omega)]
  · rw [if_neg h, decide_eq_false (by omega)]
theorem spec_place (s : ByteArray) (at_ : Int) (hs : s.size ≤ 140737488351232) : Ev (fun k => spec_PlaceOf.f k s at_) (placeV s at_) := by
  unfold spec_PlaceOf.f
  refine ev_bind (spec_tv s hs) ?_
  by_cases ht : tv (bytesOf s) = true
  · simp only [ht, if_true, l1In_gen, Option.bind_some]
    refine Ev.step (fun k => by rw [spec_PlaceOf.j0]) ?_
    by_cases h : 0 ≤ at_ ∧ at_ ≤ (s.size : Int)
    · rw [decide_eq_true h]
      obtain ⟨n, rfl⟩ := Int.eq_ofNat_of_zero_le h.1
      rw [placeV_yes ht h.2]
      simp only [Bool.not_true, Bool.false_eq_true, if_false, Int.toNat_natCast]
      exact spec_place_l s hs n (by omega) n 0 (by omega)
    · rw [decide_eq_false h, placeV_no (fun e => h ⟨e.2.1, e.2.2⟩)]
      simp only [Bool.not_false, if_true]
      exact Ev.now _
  · simp only [ht]
    refine Ev.step (fun k => by simp only [Bool.false_eq_true, if_false]; rw [spec_PlaceOf.j0]) ?_
    rw [placeV_no (fun e => ht e.1)]
    simp only [if_true]
    exact Ev.now _
theorem impl_place (s : ByteArray) (at_ : Int) (hs : s.size ≤ 140737488351232) : Ev (fun k => impl_PlaceOf.f k s at_) (placeV s at_) := by
  unfold impl_PlaceOf.f
  refine ev_bind (impl_tv s hs) ?_
  by_cases ht : tv (bytesOf s) = true
  · simp only [ht, if_true, in_gen, Option.bind_some]
    refine Ev.step (fun k => by rw [impl_PlaceOf.j0]) ?_
    by_cases h : 0 ≤ at_ ∧ at_ ≤ (s.size : Int)
    · rw [decide_eq_true h]
      obtain ⟨n, rfl⟩ := Int.eq_ofNat_of_zero_le h.1
      rw [placeV_yes ht h.2]
      have b := lastNl_bd (bytesOf s) n
      have hz : (s.extract 0 n).size = n := by rw [ByteArray.size_extract]; omega
      have hbz : bytesOf (s.extract 0 n) = (bytesOf s).take n := by rw [bytesOf_cut]; simp
      have hc : strings_Count.f (s.extract 0 n) (⟨#[10]⟩ : ByteArray) = some (cntNl (bytesOf s) n : Int) := by
        unfold strings_Count.f
        refine (if_pos rfl).trans (congrArg some ?_)
        show (Lib.countByte (s.extract 0 n).data.toList 10 : Int) = _
        rw [count_bytes, hz, hbz, cntNl_take _ _ _ (Nat.le_refl _)]
      have hl : strings_LastIndex.f (s.extract 0 n) (⟨#[10]⟩ : ByteArray) = some (lastNl (bytesOf s) n) := by
        unfold strings_LastIndex.f
        rw [if_pos (by omega)]
        congr 1
        show Lib.lastIndex (s.extract 0 n).data.toList [10] = _
        rw [last_bytes, hz, hbz, lastNl_take _ _ _ (Nat.le_refl _)]
      simp only [Bool.not_true, Bool.false_eq_true, if_false, Int.toNat_natCast, if_pos h.1, if_pos h.2, hc, hl, Option.bind_some,
        w64 (n := (n : Int) - lastNl (bytesOf s) n) (by omega) (by omega), w64 (n := (n : Int) - lastNl (bytesOf s) n - 1) (by omega) (by omega)]
      exact Ev.now _
    · rw [decide_eq_false h, placeV_no (fun e => h ⟨e.2.1, e.2.2⟩)]
      simp only [Bool.not_false, if_true]
      exact Ev.now _
  · simp only [ht]
    refine Ev.step (fun k => by simp only [Bool.false_eq_true, if_false]; rw [impl_PlaceOf.j0]) ?_
    rw [placeV_no (fun e => ht e.1)]
    simp only [if_true]
    exact Ev.now _

theorem FnExactPlaceOf : laws_FnExactPlaceOf.Pure := by
  intro s a hs _
  apply Ev.rounds
  unfold laws_FnExactPlaceOf.f
  by_cases h : (s.size : Int) > 1048576
  · simp only [if_pos h]; exact Ev.now _
  · simp only [if_neg h]
    refine ev_bind (spec_place s a hs) (ev_bind (impl_place s a hs) (ev_const fun k => ?_))
    simp

end Go.Proofs.Yteloagahkphiaaa.Pure
