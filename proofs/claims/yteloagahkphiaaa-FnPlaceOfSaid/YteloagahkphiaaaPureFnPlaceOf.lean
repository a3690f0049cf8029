/- The pure statement of the law FnPlaceOf holds: for every input that meets the bounds in the statement, the printed function of the law, given enough rounds, answers true. -/
import Derived.Test.YteloagahkphiaaaPFnPlaceOfx2
import Derived.Test.YteloagahkphiaaaWSized
namespace Go.Proofs.Yteloagahkphiaaa.Pure
open Go.RowKit Go.Proofs.Yteloagahkphiaaa.PFnPlaceOf Go.Proofs.YteloagahkphiaaaW.PrintWords Go.Proofs.YteloagahkphiaaaW.PrintLast Go.Proofs.YteloagahkphiaaaW.PrintMore Go.Proofs.Yteloagahkphiaaa.Hand
set_option linter.unusedVariables false
set_option linter.unusedSimpArgs false

theorem w64 {n : Int} (h0 : -9223372036854775808 ≤ n) (h1 : n < 9223372036854775808) : wrap64 n = n := by
  unfold wrap64; omega
theorem w64n {n : Nat} (h1 : n < 9223372036854775808) : wrap64 (n : Int) = (n : Int) := w64 (by omega) (by omega)
theorem w64s {n : Nat} (h1 : n + 1 < 9223372036854775808) : wrap64 ((n : Int) + 1) = ((n + 1 : Nat) : Int) := by
  rw [w64 (by omega) (by omega)]; rfl
theorem ev_const {α : Type} {g : Nat → Option α} {r : α} (h : ∀ k, g k = some r) : Ev g r := ⟨0, fun k _ => h k⟩
theorem ev_bind {α β : Type} {g : Nat → Option α} {f : Nat → α → Option β} {a : α} {r : β} (h : Ev g a) (k : Ev (fun n => f n a) r) :
    Ev (fun n => (g n).bind (fun x => f n x)) r := Ev.bind h k
theorem bt_nat (s : ByteArray) (i : Nat) : bt s (i : Int) = (bytesOf s).getD i 0 := by
  rw [← rd_bytesOf]; simp [rd]
theorem drop_cons (l : List Int) (i : Nat) (h : i < l.length) : l.drop i = l.getD i 0 :: l.drop (i + 1) := by
  rw [List.drop_eq_getElem_cons h]; simp [List.getD_eq_getElem?_getD, h]
theorem bytesOf_range (s : ByteArray) : ∀ x ∈ bytesOf s, 0 ≤ x ∧ x ≤ 255 := by
  intro x hx
  unfold bytesOf at hx
  obtain ⟨b, _, rfl⟩ := List.mem_map.1 hx
  have := b.toNat_lt
  omega
theorem getD_range (s : ByteArray) (i : Nat) : 0 ≤ (bytesOf s).getD i 0 ∧ (bytesOf s).getD i 0 ≤ 255 := by
  rw [← bt_nat]; exact bt_range _ _
theorem map_byte_inj : ∀ (a b : List UInt8), a.map (fun b => (b.toNat : Int)) = b.map (fun b => (b.toNat : Int)) → a = b
  | [], [], _ => rfl
  | [], _ :: _, h => by simp at h
  | _ :: _, [], h => by simp at h
  | x :: a, y :: b, h => by
    simp only [List.map_cons, List.cons.injEq] at h
    have h1 : x = y := UInt8.toNat_inj.1 (by omega)
    rw [h1, map_byte_inj a b h.2]
theorem bytesOf_inj {a b : ByteArray} (h : bytesOf a = bytesOf b) : a = b := by
  have := map_byte_inj _ _ h
  apply ByteArray.ext
  exact Array.toList_inj.1 this
theorem bytesOf_app (a b : ByteArray) : bytesOf (a ++ b) = bytesOf a ++ bytesOf b := by
  unfold bytesOf
  rw [ByteArray.data_append]; simp
theorem bytesOf_cut (s : ByteArray) (i j : Nat) : bytesOf (s.extract i j) = ((bytesOf s).take j).drop i := by
  unfold bytesOf
  rw [ByteArray.data_extract]
  simp [List.drop_take]
theorem bytesOf_str (xs : List Int) (h : ∀ x ∈ xs, 0 ≤ x ∧ x ≤ 255) : bytesOf (strOfNums xs) = xs := by
  unfold bytesOf strOfNums
  simp only [List.map_map]
  conv => rhs; rw [← List.map_id xs]
  apply List.map_congr_left
  intro x hx
  have := h x hx
  have e : x.toNat % 256 = x.toNat := Nat.mod_eq_of_lt (by omega)
  simp only [Function.comp, UInt8.toNat_ofNat', id]
  omega
theorem str_bytes (s : ByteArray) : strOfNums (bytesOf s) = s :=
  bytesOf_inj (bytesOf_str _ (bytesOf_range s))
theorem toList_data (a : ByteArray) : a.toList = a.data.toList := ByteArray.toList_eq a
theorem toList_iff {a b : ByteArray} : a.toList = b.toList ↔ bytesOf a = bytesOf b := by
  constructor
  · intro h
    unfold bytesOf
    rw [← toList_data, ← toList_data, h]
  · intro h
    rw [bytesOf_inj h]
theorem size_bytes (s : ByteArray) : s.size = (bytesOf s).length := (bytesOf_length s).symm

/-! line ends in a text: how many before a place, and the last one -/
def lastNl (L : List Int) : Nat → Int
  | 0 => -1
  | k + 1 => if L.getD k 0 = 10 then (k : Int) else lastNl L k
def cntNl (L : List Int) : Nat → Nat
  | 0 => 0
  | k + 1 => cntNl L k + (if L.getD k 0 = 10 then 1 else 0)
theorem lastNl_bd (L : List Int) : ∀ k, -1 ≤ lastNl L k ∧ lastNl L k < k
  | 0 => by unfold lastNl; omega
  | k + 1 => by
    have := lastNl_bd L k
    unfold lastNl
    split <;> omega
theorem cntNl_bd (L : List Int) : ∀ k, cntNl L k ≤ k
  | 0 => by unfold cntNl; omega
  | k + 1 => by
    have := cntNl_bd L k
    unfold cntNl
    split <;> omega
theorem lastNl_take (L : List Int) (n : Nat) : ∀ k, k ≤ n → lastNl (L.take n) k = lastNl L k
  | 0, _ => rfl
  | k + 1, h => by
    unfold lastNl
    rw [lastNl_take L n k (by omega)]
    have : (L.take n).getD k 0 = L.getD k 0 := by
      simp only [List.getD_eq_getElem?_getD, List.getElem?_take]
      rw [if_pos (by omega)]
    rw [this]
theorem cntNl_take (L : List Int) (n : Nat) : ∀ k, k ≤ n → cntNl (L.take n) k = cntNl L k
  | 0, _ => rfl
  | k + 1, h => by
    unfold cntNl
    rw [cntNl_take L n k (by omega)]
    have : (L.take n).getD k 0 = L.getD k 0 := by
      simp only [List.getD_eq_getElem?_getD, List.getElem?_take]
      rw [if_pos (by omega)]
    rw [this]
theorem getD_map (l : List UInt8) (k : Nat) (c : UInt8) (hc : c ≠ 0) : ((l.map fun b => (b.toNat : Int)).getD k 0 = (c.toNat : Int)) ↔ l[k]? = some c := by
  simp only [List.getD_eq_getElem?_getD, List.getElem?_map]
  cases h : l[k]? with
  | none =>
    simp
    intro e
    apply hc
    exact UInt8.toNat_inj.1 (by simp; omega)
  | some b =>
    simp
    constructor
    · intro e; exact UInt8.toNat_inj.1 (by omega)
    · intro e; rw [e]
theorem cnt_count (l : List UInt8) : ∀ n, n ≤ l.length → (l.take n).count 10 = cntNl (l.map fun b => (b.toNat : Int)) n
  | 0, _ => rfl
  | n + 1, h => by
    have hg : ((l.map fun b => (b.toNat : Int)).getD n 0 = 10) ↔ l[n]? = some 10 := getD_map l n 10 (by decide)
    have e1 : cntNl (l.map fun b => (b.toNat : Int)) (n + 1) = cntNl (l.map fun b => (b.toNat : Int)) n + (if (l.map fun b => (b.toNat : Int)).getD n 0 = 10 then 1 else 0) := rfl
    rw [List.take_succ_eq_append_getElem (by omega), List.count_append, cnt_count l n (by omega), e1]
    rw [List.getElem?_eq_getElem (by omega)] at hg
    congr 1
    by_cases e : l[n] = 10
    · rw [if_pos (hg.2 (by rw [e]))]; simp [e]
    · rw [if_neg (fun h => e (Option.some.inj (hg.1 h)))]; simp [e]
theorem count_bytes (s : ByteArray) : (Lib.countByte s.data.toList 10 : Int) = (cntNl (bytesOf s) s.size : Int) := by
  unfold Lib.countByte bytesOf
  have := cnt_count s.data.toList s.size (by rw [data_length]; omega)
  rw [List.take_of_length_le (by rw [data_length]; omega)] at this
  rw [this]
theorem occ_one (l : List UInt8) (k : Nat) : Lib.occAt l [10] k = true ↔ l[k]? = some 10 := by
  unfold Lib.occAt
  rcases Nat.lt_or_ge k l.length with h | h
  · rw [List.drop_eq_getElem_cons h, List.getElem?_eq_getElem h]
    simp [List.isPrefixOf]
    exact eq_comm
  · rw [List.drop_eq_nil_iff.2 h, List.getElem?_eq_none h]
    simp [List.isPrefixOf]
theorem lastOcc_nl (l : List UInt8) : ∀ k, Lib.lastOcc l [10] k = lastNl (l.map fun b => (b.toNat : Int)) k
  | 0 => rfl
  | k + 1 => by
    have hg : ((l.map fun b => (b.toNat : Int)).getD k 0 = 10) ↔ l[k]? = some 10 := getD_map l k 10 (by decide)
    have ho := occ_one l k
    rw [lastNl]
    by_cases e : l[k]? = some 10
    · rw [if_pos (hg.2 e)]; exact Lib.lastOcc_hit _ _ _ (ho.2 e)
    · rw [if_neg (fun h => e (hg.1 h)), ← lastOcc_nl l k]
      refine Lib.lastOcc_miss _ _ _ ?_
      rw [Bool.eq_false_iff]; exact fun h => e (ho.1 h)
theorem last_bytes (s : ByteArray) : Lib.lastIndex s.data.toList [10] = lastNl (bytesOf s) s.size := by
  unfold Lib.lastIndex bytesOf
  rw [lastOcc_nl]
  rw [data_length]
  by_cases h : s.size = 0
  · rw [h]; rfl
  · rw [if_pos (by simp; omega)]
    congr 1
    simp; omega

/-! texts: which bytes are plain -/
def okb (x : Int) : Bool := x == 10 || (decide (32 ≤ x) && decide (x ≤ 126))
def tv (l : List Int) : Bool := l.all okb && decide (l.length ≤ 20000)
theorem okb_ten : okb 10 = true := rfl
theorem okb_in (x : Int) (h : ¬ x = 10) : okb x = (decide (32 ≤ x) && decide (x ≤ 126)) := by
  unfold okb; rw [beq_eq_false_iff_ne.mpr h]; rfl

theorem l1In_eq (x : Int) : spec_l1In.f x 32 126 = some (decide (32 ≤ x) && decide (x ≤ 126)) := by
  unfold spec_l1In.f
  by_cases h : x ≥ 32
  · rw [if_pos h, decide_eq_true h]; rfl
  · rw [if_neg h, decide_eq_false h]; rfl
theorem spec_tv_l (s : ByteArray) (hs : s.size ≤ 140737488351232) : ∀ (l : List Int) (i : Nat), (bytesOf s).drop i = l → i ≤ s.size →
    Ev (fun k => spec_TextValid.l0 k s (i : Int)) (l.all okb && decide ((bytesOf s).length ≤ 20000)) := by
  intro l
  induction l with
  | nil =>
    intro i hl hi
    have hn : s.size = i := by
      have := List.drop_eq_nil_iff.1 hl
      rw [bytesOf_length] at this; omega
    refine Ev.step (fun k => by rw [spec_TextValid.l0]) (ev_const fun k => ?_)
    rw [if_neg (by omega), bytesOf_length]; simp; omega
  | cons x l ih =>
    intro i hl hi
    have hlt : i < s.size := by
      rcases Nat.lt_or_ge i s.size with h | h
      · exact h
      · rw [List.drop_eq_nil_iff.2 (by rw [bytesOf_length]; exact h)] at hl; cases hl
    have hd := drop_cons (bytesOf s) i (by rw [bytesOf_length]; exact hlt)
    rw [hd] at hl
    obtain ⟨hx, hl'⟩ := List.cons.inj hl
    have hr := getD_range s i
    have hb := bt_nat s i
    rw [hx] at hb hr
    have h1 := ih (i + 1) hl' (by omega)
    refine Ev.step (fun k => by rw [spec_TextValid.l0]) ?_
    simp only [hb, w64s (show i + 1 < 9223372036854775808 by omega), w64 (n := x) (by omega) (by omega), l1In_eq, Option.bind_some, show (i : Int) < (s.size : Int) by omega, show (0 : Int) ≤ (i : Int) by omega, if_true]
    by_cases h10 : x = 10
    · subst h10
      simp only [if_true, List.all_cons, okb_ten, Bool.true_and]; exact h1
    · simp only [h10, if_false, List.all_cons, okb_in x h10]
      cases hq : (decide (32 ≤ x) && decide (x ≤ 126))
      · simp; exact Ev.now _
      · simp; simpa using h1
theorem spec_tv (s : ByteArray) (hs : s.size ≤ 140737488351232) : Ev (fun k => spec_TextValid.f k s) (tv (bytesOf s)) := by
  have := spec_tv_l s hs (bytesOf s) 0 rfl (by omega)
  exact this

theorem in_eq (x : Int) : impl_in.f x 32 126 = some (decide (32 ≤ x) && decide (x ≤ 126)) := by
  unfold impl_in.f
  by_cases h : x ≥ 32
  · rw [if_pos h, decide_eq_true h]; rfl
  · rw [if_neg h, decide_eq_false h]; rfl
theorem impl_tv_l (s : ByteArray) (hs : s.size ≤ 140737488351232) : ∀ (l : List Int) (i : Nat), (bytesOf s).drop i = l → i ≤ s.size →
    Ev (fun k => impl_TextValid.l0 k s (i : Int)) (l.all okb && decide ((bytesOf s).length ≤ 20000)) := by
  intro l
  induction l with
  | nil =>
    intro i hl hi
    have hn : s.size = i := by
      have := List.drop_eq_nil_iff.1 hl
      rw [bytesOf_length] at this; omega
    refine Ev.step (fun k => by rw [impl_TextValid.l0]) (ev_const fun k => ?_)
    rw [if_neg (by omega), bytesOf_length]; simp; omega
  | cons x l ih =>
    intro i hl hi
    have hlt : i < s.size := by
      rcases Nat.lt_or_ge i s.size with h | h
      · exact h
      · rw [List.drop_eq_nil_iff.2 (by rw [bytesOf_length]; exact h)] at hl; cases hl
    have hd := drop_cons (bytesOf s) i (by rw [bytesOf_length]; exact hlt)
    rw [hd] at hl
    obtain ⟨hx, hl'⟩ := List.cons.inj hl
    have hr := getD_range s i
    have hb := bt_nat s i
    rw [hx] at hb hr
    have h1 := ih (i + 1) hl' (by omega)
    refine Ev.step (fun k => by rw [impl_TextValid.l0]) ?_
    simp only [hb, w64s (show i + 1 < 9223372036854775808 by omega), w64 (n := x) (by omega) (by omega), in_eq, Option.bind_some, show (i : Int) < (s.size : Int) by omega, show (0 : Int) ≤ (i : Int) by omega, if_true]
    by_cases h10 : x = 10
    · subst h10
      simp only [if_true, List.all_cons, okb_ten, Bool.true_and]; exact h1
    · simp only [h10, if_false, List.all_cons, okb_in x h10]
      cases hq : (decide (32 ≤ x) && decide (x ≤ 126))
      · simp; exact Ev.now _
      · simp; simpa using h1
theorem impl_tv (s : ByteArray) (hs : s.size ≤ 140737488351232) : Ev (fun k => impl_TextValid.f k s) (tv (bytesOf s)) := by
  have := impl_tv_l s hs (bytesOf s) 0 rfl (by omega)
  exact this

def placeV (s : ByteArray) (at_ : Int) : Int × Int :=
  if tv (bytesOf s) = true ∧ 0 ≤ at_ ∧ at_ ≤ (s.size : Int) then ((cntNl (bytesOf s) at_.toNat : Int), at_ - lastNl (bytesOf s) at_.toNat - 1) else (-1, -1)
theorem placeV_yes {s : ByteArray} {n : Nat} (ht : tv (bytesOf s) = true) (h : (n : Int) ≤ (s.size : Int)) : placeV s (n : Int) = ((cntNl (bytesOf s) n : Int), (n : Int) - lastNl (bytesOf s) n - 1) := by
  unfold placeV
  rw [if_pos ⟨ht, by omega, h⟩, Int.toNat_natCast]
theorem placeV_no {s : ByteArray} {a : Int} (h : ¬ (tv (bytesOf s) = true ∧ 0 ≤ a ∧ a ≤ (s.size : Int))) : placeV s a = (-1, -1) := by
  unfold placeV
  rw [if_neg h]
theorem spec_place_l (s : ByteArray) (hs : s.size ≤ 140737488351232) (n : Nat) (hn : n ≤ s.size) : ∀ (d i : Nat), i + d = n →
    Ev (fun k => spec_PlaceOf.l0 k s (n : Int) (cntNl (bytesOf s) i : Int) (lastNl (bytesOf s) i + 1) (i : Int)) ((cntNl (bytesOf s) n : Int), (n : Int) - lastNl (bytesOf s) n - 1) := by
  intro d
  induction d with
  | zero =>
    intro i hi
    obtain rfl : i = n := by omega
    have b := lastNl_bd (bytesOf s) i
    refine Ev.step (fun k => by rw [spec_PlaceOf.l0]) ?_
    simp only [if_neg (show ¬ (i : Int) < (i : Int) by omega), w64 (n := (i : Int) - (lastNl (bytesOf s) i + 1)) (by omega) (by omega)]
    refine ev_const fun k => ?_
    rw [show (i : Int) - (lastNl (bytesOf s) i + 1) = (i : Int) - lastNl (bytesOf s) i - 1 by omega]
  | succ d ih =>
    intro i hi
    have b := lastNl_bd (bytesOf s) i
    have c := cntNl_bd (bytesOf s) i
    have hb := bt_nat s i
    have h1 := ih (i + 1) (by omega)
    refine Ev.step (fun k => by rw [spec_PlaceOf.l0]) ?_
    simp only [if_pos (show (i : Int) < (n : Int) by omega), if_pos (show (0 : Int) ≤ (i : Int) by omega), if_pos (show (i : Int) < (s.size : Int) by omega), hb,
      w64s (show i + 1 < 9223372036854775808 by omega), w64s (show cntNl (bytesOf s) i + 1 < 9223372036854775808 by omega)]
    rw [cntNl, lastNl] at h1
    by_cases e : (bytesOf s).getD i 0 = 10
    · simp only [if_pos e] at h1 ⊢
      exact h1
    · simp only [if_neg e] at h1 ⊢
      exact h1
theorem l1In_gen (a b c : Int) : spec_l1In.f a b c = some (decide (b ≤ a ∧ a ≤ c)) := by
  unfold spec_l1In.f
  by_cases h : a ≥ b
  · rw [if_pos h]
    by_cases h2 : a ≤ c
    · rw [decide_eq_true h2, decide_eq_true (by omega)]
    · rw [decide_eq_false h2, decide_eq_false (by omega)]
  · rw [if_neg h, decide_eq_false (by omega)]
theorem in_gen (a b c : Int) : impl_in.f a b c = some (decide (b ≤ a ∧ a ≤ c)) := by
  unfold impl_in.f
  by_cases h : a ≥ b
  · rw [if_pos h]
    by_cases h2 : a ≤ c
    · rw [decide_eq_true h2, decide_eq_true (by omega)]
    · rw [decide_eq_false h2, decide_eq_false (by omega)]
  · rw [if_neg h, decide_eq_false (by omega)]
theorem spec_place (s : ByteArray) (at_ : Int) (hs : s.size ≤ 140737488351232) : Ev (fun k => spec_PlaceOf.f k s at_) (placeV s at_) := by
  unfold spec_PlaceOf.f
  refine ev_bind (spec_tv s hs) ?_
  by_cases ht : tv (bytesOf s) = true
  · simp only [ht, if_true, l1In_gen, Option.bind_some]
    refine Ev.step (fun k => by rw [spec_PlaceOf.j0]) ?_
    by_cases h : 0 ≤ at_ ∧ at_ ≤ (s.size : Int)
    · rw [decide_eq_true h]
      obtain ⟨n, rfl⟩ := Int.eq_ofNat_of_zero_le h.1
      rw [placeV_yes ht h.2]
      simp only [Bool.not_true, Bool.false_eq_true, if_false, Int.toNat_natCast]
      exact spec_place_l s hs n (by omega) n 0 (by omega)
    · rw [decide_eq_false h, placeV_no (fun e => h ⟨e.2.1, e.2.2⟩)]
      simp only [Bool.not_false, if_true]
      exact Ev.now _
  · simp only [ht]
    refine Ev.step (fun k => by simp only [Bool.false_eq_true, if_false]; rw [spec_PlaceOf.j0]) ?_
    rw [placeV_no (fun e => ht e.1)]
    simp only [if_true]
    exact Ev.now _
theorem impl_place (s : ByteArray) (at_ : Int) (hs : s.size ≤ 140737488351232) : Ev (fun k => impl_PlaceOf.f k s at_) (placeV s at_) := by
  unfold impl_PlaceOf.f
  refine ev_bind (impl_tv s hs) ?_
  by_cases ht : tv (bytesOf s) = true
  · simp only [ht, if_true, in_gen, Option.bind_some]
    refine Ev.step (fun k => by rw [impl_PlaceOf.j0]) ?_
    by_cases h : 0 ≤ at_ ∧ at_ ≤ (s.size : Int)
    · rw [decide_eq_true h]
      obtain ⟨n, rfl⟩ := Int.eq_ofNat_of_zero_le h.1
      rw [placeV_yes ht h.2]
      have b := lastNl_bd (bytesOf s) n
      have hz : (s.extract 0 n).size = n := by rw [ByteArray.size_extract]; omega
      have hbz : bytesOf (s.extract 0 n) = (bytesOf s).take n := by rw [bytesOf_cut]; simp
      have hc : strings_Count.f (s.extract 0 n) (⟨#[10]⟩ : ByteArray) = some (cntNl (bytesOf s) n : Int) := by
        unfold strings_Count.f
        refine (if_pos rfl).trans (congrArg some ?_)
        show (Lib.countByte (s.extract 0 n).data.toList 10 : Int) = _
        rw [count_bytes, hz, hbz, cntNl_take _ _ _ (Nat.le_refl _)]
      have hl : strings_LastIndex.f (s.extract 0 n) (⟨#[10]⟩ : ByteArray) = some (lastNl (bytesOf s) n) := by
        unfold strings_LastIndex.f
        rw [if_pos (by omega)]
        congr 1
        show Lib.lastIndex (s.extract 0 n).data.toList [10] = _
        rw [last_bytes, hz, hbz, lastNl_take _ _ _ (Nat.le_refl _)]
      simp only [Bool.not_true, Bool.false_eq_true, if_false, Int.toNat_natCast, if_pos h.1, if_pos h.2, hc, hl, Option.bind_some,
        w64 (n := (n : Int) - lastNl (bytesOf s) n) (by omega) (by omega), w64 (n := (n : Int) - lastNl (bytesOf s) n - 1) (by omega) (by omega)]
      exact Ev.now _
    · rw [decide_eq_false h, placeV_no (fun e => h ⟨e.2.1, e.2.2⟩)]
      simp only [Bool.not_false, if_true]
      exact Ev.now _
  · simp only [ht]
    refine Ev.step (fun k => by simp only [Bool.false_eq_true, if_false]; rw [impl_PlaceOf.j0]) ?_
    rw [placeV_no (fun e => ht e.1)]
    simp only [if_true]
    exact Ev.now _

theorem tmod_nn (a b : Int) (ha : 0 ≤ a) (hb : 0 < b) : 0 ≤ Int.tmod a b ∧ Int.tmod a b < b ∧ Int.tmod a b ≤ a := by
  rw [Int.tmod_eq_emod_of_nonneg ha]
  refine ⟨Int.emod_nonneg _ (by omega), Int.emod_lt_of_pos _ hb, ?_⟩
  have := Int.emod_add_mul_ediv a b
  have h2 : 0 ≤ a / b := Int.ediv_nonneg ha (by omega)
  have h3 : 0 ≤ b * (a / b) := Int.mul_nonneg (by omega) h2
  omega
theorem tdiv_nn (a b : Int) (ha : 0 ≤ a) (hb : 0 < b) : 0 ≤ Int.tdiv a b ∧ Int.tdiv a b ≤ a := by
  rw [Int.tdiv_eq_ediv_of_nonneg ha]
  exact ⟨Int.ediv_nonneg ha (by omega), Int.ediv_le_self _ ha⟩

/-! the reader that the inputs are drawn from -/
theorem xor_small (a b : Int) (ha : 0 ≤ a) (ha' : a < 4611686018427387904) (hb : 0 ≤ b) (hb' : b < 4611686018427387904) :
    0 ≤ Go.bits .xor .i64 a b ∧ Go.bits .xor .i64 a b < 4611686018427387904 := by
  obtain ⟨m, rfl⟩ := Int.eq_ofNat_of_zero_le ha
  obtain ⟨n, rfl⟩ := Int.eq_ofNat_of_zero_le hb
  have hx : m ^^^ n < 2 ^ 62 := Nat.xor_lt_two_pow (by omega) (by omega)
  have h1 : m % 2 ^ 64 = m := Nat.mod_eq_of_lt (by omega)
  have h2 : n % 2 ^ 64 = n := Nat.mod_eq_of_lt (by omega)
  have e : Go.bits .xor .i64 (m : Int) (n : Int) = ((m ^^^ n : Nat) : Int) := by
    have e1 : (BitVec.ofNat 64 m ^^^ BitVec.ofNat 64 n).toNat = m ^^^ n := by
      rw [BitVec.toNat_xor, BitVec.toNat_ofNat, BitVec.toNat_ofNat, h1, h2]
    show Go.IntKind.i64.wrap (((BitVec.ofInt 64 (m : Int) ^^^ BitVec.ofInt 64 (n : Int)).toNat : Nat) : Int) = _
    rw [BitVec.ofInt_natCast, BitVec.ofInt_natCast, e1, Go.IntKind.wrap_i64]; omega
  rw [e]; omega
/-- what is known of the reader's bytes. -/
def Bys (L : List Int) : Prop := L.length ≤ 2000 ∧ ∀ x ∈ L, 0 ≤ x ∧ x ≤ 255
theorem Bys.rd {L : List Int} (h : Bys L) (i : Int) : 0 ≤ rd L i ∧ rd L i ≤ 255 := by
  unfold Go.Proofs.YteloagahkphiaaaW.PrintWords.rd
  rw [List.getD_eq_getElem?_getD]
  rcases Nat.lt_or_ge i.toNat L.length with hl | hl
  · rw [List.getElem?_eq_getElem hl]
    exact h.2 _ (List.getElem_mem hl)
  · rw [List.getElem?_eq_none hl]; simp
theorem pick_ev (L : List Int) (hL : Bys L) (p n : Int) (hp : 0 ≤ p) (hp' : p ≤ 1099511627776) (hn : 1 ≤ n) :
    ∃ v, 0 ≤ v ∧ v < n ∧ Ev (fun k => spec_l20Rd_pick.f k L p n) (v, p + 1) := by
  have hlen := hL.1
  have hp1 : wrap64 (p + 1) = p + 1 := w64 (by omega) (by omega)
  have hp2 : wrap64 (p + 1 - 1) = p := by rw [w64 (by omega) (by omega)]; omega
  by_cases h0 : L.length = 0
  · refine ⟨0, by omega, by omega, ?_⟩
    unfold spec_l20Rd_pick.f
    simp only [if_neg (show ¬ n < 1 by omega), hp1]
    refine Ev.step (fun k => by rw [spec_l20Rd_pick.j0]) ?_
    simp only [show ((L.length : Int) == 0) = true by simpa using h0, if_true]
    exact Ev.now _
  · by_cases hlt : p < (L.length : Int)
    · have hr := hL.rd p
      have ht := tmod_nn (rd L p) n hr.1 (by omega)
      refine ⟨_, ht.1, ht.2.1, ?_⟩
      unfold spec_l20Rd_pick.f
      simp only [if_neg (show ¬ n < 1 by omega), hp1]
      refine Ev.step (fun k => by rw [spec_l20Rd_pick.j0]) ?_
      simp only [show ((L.length : Int) == 0) = false by simpa using h0, Bool.false_eq_true, if_false, hp2, if_pos hlt, if_pos hp, if_neg (show ¬ n = 0 by omega), w64 (n := rd L p) (by omega) (by omega)]
      exact Ev.now _
    · have hpos : (0 : Int) < (L.length : Int) := by omega
      have hi1 := tmod_nn p L.length hp hpos
      have hw7 : wrap64 (wrap64 (p * 7) + 3) = p * 7 + 3 := by rw [w64 (n := p * 7) (by omega) (by omega), w64 (by omega) (by omega)]
      have hi2 := tmod_nn (p * 7 + 3) L.length (by omega) hpos
      have hd := tdiv_nn p L.length hp hpos
      have r1 := hL.rd (Int.tmod p L.length)
      have r2 := hL.rd (Int.tmod (p * 7 + 3) L.length)
      have hX : wrap64 (wrap64 (wrap64 (wrap64 (wrap64 (rd L (Int.tmod p L.length)) * 131) + wrap64 (wrap64 (rd L (Int.tmod (p * 7 + 3) L.length)) * 1117)) + wrap64 (p * 29)) + wrap64 (wrap64 (Int.tdiv p L.length) * 53))
          = rd L (Int.tmod p L.length) * 131 + rd L (Int.tmod (p * 7 + 3) L.length) * 1117 + p * 29 + Int.tdiv p L.length * 53 := by
        generalize rd L (Int.tmod p L.length) = a at *
        generalize rd L (Int.tmod (p * 7 + 3) L.length) = b at *
        generalize Int.tdiv p L.length = c at *
        rw [w64 (n := a) (by omega) (by omega), w64 (n := b) (by omega) (by omega), w64 (n := c) (by omega) (by omega), w64 (n := a * 131) (by omega) (by omega), w64 (n := b * 1117) (by omega) (by omega), w64 (n := p * 29) (by omega) (by omega), w64 (n := c * 53) (by omega) (by omega)]
        rw [w64 (n := a * 131 + b * 1117) (by omega) (by omega), w64 (n := a * 131 + b * 1117 + p * 29) (by omega) (by omega), w64 (by omega) (by omega)]
      have hX0 : 0 ≤ rd L (Int.tmod p L.length) * 131 + rd L (Int.tmod (p * 7 + 3) L.length) * 1117 + p * 29 + Int.tdiv p L.length * 53 := by omega
      have hX1 : rd L (Int.tmod p L.length) * 131 + rd L (Int.tmod (p * 7 + 3) L.length) * 1117 + p * 29 + Int.tdiv p L.length * 53 < 4611686018427387904 := by omega
      generalize hXe : rd L (Int.tmod p L.length) * 131 + rd L (Int.tmod (p * 7 + 3) L.length) * 1117 + p * 29 + Int.tdiv p L.length * 53 = X at *
      have hq := tdiv_nn X 64 hX0 (by omega)
      have hx := xor_small X (Int.tdiv X 64) hX0 hX1 hq.1 (by omega)
      have ht := tmod_nn _ n hx.1 (by omega)
      refine ⟨_, ht.1, ht.2.1, ?_⟩
      unfold spec_l20Rd_pick.f
      simp only [if_neg (show ¬ n < 1 by omega), hp1]
      refine Ev.step (fun k => by rw [spec_l20Rd_pick.j0]) ?_
      simp only [show ((L.length : Int) == 0) = false by simpa using h0, Bool.false_eq_true, if_false, hp2, if_neg hlt, if_neg (show ¬ (L.length : Int) = 0 by omega), if_neg (show ¬ n = 0 by omega),
        if_pos hi1.1, if_pos hi1.2.1, hw7, if_pos hi2.1, if_pos hi2.2.1, hX, w64 (n := Int.tdiv X 64) (by omega) (by omega)]
      exact Ev.now _
theorem odd_ev (L : List Int) (hL : Bys L) (p n : Int) (hp : 0 ≤ p) (hp' : p ≤ 1099511627776) (hn : 0 ≤ n) (hn' : n ≤ 1000000) :
    ∃ b q, p ≤ q ∧ q ≤ p + 1 ∧ Ev (fun k => spec_l20Rd_odd.f k L p n) (b, q) := by
  unfold spec_l20Rd_odd.f
  by_cases h : n > 0
  · obtain ⟨v, h0, h1, hv⟩ := pick_ev L hL p n hp hp' (by omega)
    refine ⟨(v == wrap64 (n - 1)), p + 1, by omega, by omega, ?_⟩
    simp only [if_pos h]
    exact ev_bind hv (Ev.now _)
  · refine ⟨false, p, by omega, by omega, ?_⟩
    simp only [if_neg h]
    exact Ev.now _
theorem open_ev (l : List Int) (hw : ∀ x ∈ l, (Lit.int .u8 x).wf = true) : ∃ L, Bys L ∧ spec_l20Open.f l = some (L, 0) := by
  have hr : ∀ x ∈ l, 0 ≤ x ∧ x ≤ 255 := by
    intro x hx
    have := hw x hx
    simp [Lit.wf, IntKind.min, IntKind.max, IntKind.signed, IntKind.bits] at this
    omega
  unfold spec_l20Open.f
  by_cases h : (l.length : Int) > 2000
  · refine ⟨l.take 2000, ⟨by simp; omega, fun x hx => hr x (List.mem_of_mem_take hx)⟩, ?_⟩
    rw [if_pos h, if_pos (by omega)]
  · refine ⟨l, ⟨by omega, hr⟩, ?_⟩
    rw [if_neg h]

/-- from some number of rounds on the answer is one that P holds of. -/
def EvP {α : Type} (g : Nat → Option α) (P : α → Prop) : Prop := ∃ r, P r ∧ Ev g r
theorem EvP.now {α : Type} {P : α → Prop} {r : α} (h : P r) : EvP (fun _ => some r) P := ⟨r, h, Ev.now r⟩
theorem EvP.bind {α β : Type} {g : Nat → Option α} {f : Nat → α → Option β} {P : α → Prop} {Q : β → Prop} (h : EvP g P) (k : ∀ a, P a → EvP (fun n => f n a) Q) :
    EvP (fun n => (g n).bind (fun x => f n x)) Q := by
  obtain ⟨a, ha, he⟩ := h
  obtain ⟨b, hb, hf⟩ := k a ha
  exact ⟨b, hb, ev_bind he hf⟩
theorem EvP.step {α : Type} {g f : Nat → Option α} {P : α → Prop} (h : ∀ k, g (k + 1) = f k) (k : EvP f P) : EvP g P := by
  obtain ⟨r, hr, he⟩ := k
  exact ⟨r, hr, Ev.step h he⟩
theorem EvP.mono {α : Type} {g : Nat → Option α} {P Q : α → Prop} (h : EvP g P) (k : ∀ r, P r → Q r) : EvP g Q := by
  obtain ⟨r, hr, he⟩ := h
  exact ⟨r, k r hr, he⟩
theorem EvP.of_ev {α : Type} {g : Nat → Option α} {P : α → Prop} {r : α} (h : Ev g r) (hp : P r) : EvP g P := ⟨r, hp, h⟩
theorem pick_p (L : List Int) (hL : Bys L) (p n : Int) (hp : 0 ≤ p) (hp' : p ≤ 1099511627776) (hn : 1 ≤ n) :
    EvP (fun k => spec_l20Rd_pick.f k L p n) (fun r => 0 ≤ r.1 ∧ r.1 < n ∧ r.2 = p + 1) := by
  obtain ⟨v, h0, h1, he⟩ := pick_ev L hL p n hp hp' hn
  exact ⟨_, ⟨h0, h1, rfl⟩, he⟩
theorem odd_p (L : List Int) (hL : Bys L) (p n : Int) (hp : 0 ≤ p) (hp' : p ≤ 1099511627776) (hn : 0 ≤ n) (hn' : n ≤ 1000000) :
    EvP (fun k => spec_l20Rd_odd.f k L p n) (fun r => p ≤ r.2 ∧ r.2 ≤ p + 1) := by
  obtain ⟨b, q, h0, h1, he⟩ := odd_ev L hL p n hp hp' hn hn'
  exact ⟨_, ⟨h0, h1⟩, he⟩
theorem rd_all {P : Int → Prop} (ys : List Int) (h : ∀ y ∈ ys, P y) (i : Int) (h0 : 0 ≤ i) (hi : i < (ys.length : Int)) : P (rd ys i) := by
  unfold Go.Proofs.YteloagahkphiaaaW.PrintWords.rd
  have hl : i.toNat < ys.length := by omega
  rw [List.getD_eq_getElem?_getD, List.getElem?_eq_getElem hl]
  exact h _ (List.getElem_mem hl)

/-! drawn texts are short -/
theorem rdOf_small (ys : List ByteArray) (b : Nat) (h : ∀ y ∈ ys, y.size ≤ b) (i : Int) : (rdOf ByteArray.empty ys i).size ≤ b := by
  unfold rdOf
  rw [List.getD_eq_getElem?_getD]
  rcases Nat.lt_or_ge i.toNat ys.length with hl | hl
  · rw [List.getElem?_eq_getElem hl]
    exact h _ (List.getElem_mem hl)
  · rw [List.getElem?_eq_none hl]; show 0 ≤ b; omega
theorem plain_l (L : List Int) (hL : Bys L) (n : Int) (hn : 0 ≤ n) (hn' : n ≤ 1000000) : ∀ (j : Nat) (p : Int) (o : ByteArray), 0 ≤ p → p + j ≤ 1000000 → o.size + j ≤ 1000000 →
    ∃ R q, R.size ≤ o.size + j + 1 ∧ p ≤ q ∧ q ≤ p + j + 2 ∧ Ev (fun k => spec_l20Plain.l0 k n o (j : Int) L p) (R, q) := by
  intro j
  induction j with
  | zero =>
    intro p o hp hpj hoj
    obtain ⟨b, q, h1, h2, ho⟩ := odd_ev L hL p n hp (by omega) hn hn'
    cases b with
    | false =>
      refine ⟨o, q, by omega, by omega, by omega, ?_⟩
      refine Ev.step (fun k => by rw [spec_l20Plain.l0]) ?_
      simp only [if_neg (show ¬ ((0 : Nat) : Int) > 0 by omega)]
      refine ev_bind ho ?_
      simp only [Bool.false_eq_true, if_false]
      exact Ev.now _
    | true =>
      obtain ⟨v, h3, h4, hv⟩ := pick_ev L hL q 3 (by omega) (by omega) (by omega)
      have hz := rdOf_small [(⟨#[31]⟩ : ByteArray), (⟨#[127]⟩ : ByteArray), (⟨#[195]⟩ : ByteArray)] 1 (by decide) v
      refine ⟨o ++ rdOf ByteArray.empty [(⟨#[31]⟩ : ByteArray), (⟨#[127]⟩ : ByteArray), (⟨#[195]⟩ : ByteArray)] v, q + 1, by rw [ByteArray.size_append]; omega, by omega, by omega, ?_⟩
      · refine Ev.step (fun k => by rw [spec_l20Plain.l0]) ?_
        simp only [if_neg (show ¬ ((0 : Nat) : Int) > 0 by omega)]
        refine ev_bind ho ?_
        simp only [if_true, Option.bind_some]
        refine ev_bind hv ?_
        simp only [if_pos h3, List.length_cons, List.length_nil]
        simp only [if_pos (show v < ((0 + 1 + 1 + 1 : Nat) : Int) by omega)]
        simp only [if_pos (show o.size + (rdOf ByteArray.empty [(⟨#[31]⟩ : ByteArray), (⟨#[127]⟩ : ByteArray), (⟨#[195]⟩ : ByteArray)] v).size ≤ 9223372036854775807 by omega)]
        exact Ev.now _
  | succ j ih =>
    intro p o hp hpj hoj
    obtain ⟨v, h3, h4, hv⟩ := pick_ev L hL p 8 hp (by omega) (by omega)
    have hz := rdOf_small [(⟨#[97]⟩ : ByteArray), (⟨#[98]⟩ : ByteArray), (⟨#[32]⟩ : ByteArray), (⟨#[10]⟩ : ByteArray), (⟨#[34]⟩ : ByteArray), (⟨#[92]⟩ : ByteArray), (⟨#[35]⟩ : ByteArray), (⟨#[120]⟩ : ByteArray)] 1 (by decide) v
    obtain ⟨R, q, r1, r2, r3, hR⟩ := ih (p + 1) (o ++ rdOf ByteArray.empty [(⟨#[97]⟩ : ByteArray), (⟨#[98]⟩ : ByteArray), (⟨#[32]⟩ : ByteArray), (⟨#[10]⟩ : ByteArray), (⟨#[34]⟩ : ByteArray), (⟨#[92]⟩ : ByteArray), (⟨#[35]⟩ : ByteArray), (⟨#[120]⟩ : ByteArray)] v) (by omega) (by omega) (by rw [ByteArray.size_append]; omega)
    rw [ByteArray.size_append] at r1
    refine ⟨R, q, by omega, by omega, by omega, ?_⟩
    refine Ev.step (fun k => by rw [spec_l20Plain.l0]) ?_
    simp only [if_pos (show ((j + 1 : Nat) : Int) > 0 by omega), Option.bind_some]
    refine ev_bind hv ?_
    simp only [if_pos h3, List.length_cons, List.length_nil]
    simp only [if_pos (show v < ((0 + 1 + 1 + 1 + 1 + 1 + 1 + 1 + 1 : Nat) : Int) by omega)]
    simp only [if_pos (show o.size + (rdOf ByteArray.empty [(⟨#[97]⟩ : ByteArray), (⟨#[98]⟩ : ByteArray), (⟨#[32]⟩ : ByteArray), (⟨#[10]⟩ : ByteArray), (⟨#[34]⟩ : ByteArray), (⟨#[92]⟩ : ByteArray), (⟨#[35]⟩ : ByteArray), (⟨#[120]⟩ : ByteArray)] v).size ≤ 9223372036854775807 by omega),
      show wrap64 (((j + 1 : Nat) : Int) - 1) = (j : Int) by rw [w64 (by omega) (by omega)]; omega]
    exact hR
theorem plain_ev (L : List Int) (hL : Bys L) (p n : Int) (hp : 0 ≤ p) (hp' : p ≤ 1000) (hn : 0 ≤ n) (hn' : n ≤ 1000000) :
    ∃ R q, R.size ≤ 10 ∧ p ≤ q ∧ q ≤ p + 20 ∧ Ev (fun k => spec_l20Plain.f k L p n) (R, q) := by
  obtain ⟨v, h3, h4, hv⟩ := pick_ev L hL p 9 hp (by omega) (by omega)
  obtain ⟨j, rfl⟩ := Int.eq_ofNat_of_zero_le h3
  obtain ⟨R, q, r1, r2, r3, hR⟩ := plain_l L hL n hn hn' j (p + 1) (⟨#[]⟩ : ByteArray) (by omega) (by omega) (by show 0 + j ≤ _; omega)
  refine ⟨R, q, ?_, by omega, by omega, ?_⟩
  · have : (⟨#[]⟩ : ByteArray).size = 0 := rfl
    omega
  · unfold spec_l20Plain.f
    exact ev_bind hv hR

theorem alive_ev : Ev (fun k => laws_alive.f k) true := by
  unfold laws_alive.f
  refine ev_bind (impl_tv (⟨#[97]⟩ : ByteArray) (by decide)) ?_
  have : tv (bytesOf (⟨#[97]⟩ : ByteArray)) = true := by decide
  rw [this]
  exact Ev.now _

theorem place_last (L : List Int) (n : Nat) : (cntNl L n : Int) ≤ n ∧ (n : Int) - lastNl L n - 1 ≤ n := by
  have := cntNl_bd L n
  have := lastNl_bd L n
  omega
theorem drawPlace (l : List Int) (hw : ∀ x ∈ l, (Lit.int .u8 x).wf = true) : EvP (fun k => spec_DrawPlaceOf.f k l) (fun r => r.1.size ≤ 10 ∧ -1 ≤ r.2 ∧ r.2 ≤ 12) := by
  obtain ⟨L, hL, hop⟩ := open_ev l hw
  unfold spec_DrawPlaceOf.f
  rw [hop]
  simp only [Option.bind_some]
  obtain ⟨s, q, hs, hq, hq', hp⟩ := plain_ev L hL 0 9 (by omega) (by omega) (by omega) (by omega)
  refine EvP.bind (P := fun r => r = (s, q)) (EvP.of_ev hp rfl) ?_
  rintro _ rfl
  simp only [w64 (n := (s.size : Int) + 2) (by omega) (by omega)]
  refine EvP.bind (pick_p L hL q _ (by omega) (by omega) (by omega)) ?_
  rintro ⟨v1, p1⟩ ⟨a1, a2, a3⟩
  simp only at a1 a2 a3 ⊢
  refine EvP.bind (pick_p L hL p1 9 (by omega) (by omega) (by omega)) ?_
  rintro ⟨v2, p2⟩ ⟨b1, b2, b3⟩
  simp only at b1 b2 b3 ⊢
  have e : Int.tdiv v2 8 = v2 / 8 := Int.tdiv_eq_ediv_of_nonneg b1
  rw [e, w64 (n := v2 / 8) (by omega) (by omega), w64 (n := v1 - v2 / 8) (by omega) (by omega)]
  exact EvP.now ⟨hs, by simp only; omega, by simp only; omega⟩
theorem FnPlaceOf : laws_FnPlaceOf.Pure := by
  intro l _ _ hw
  apply Ev.rounds
  unfold laws_FnPlaceOf.f
  by_cases h : (l.length : Int) > 1048576
  · simp only [if_pos h]; exact Ev.now _
  · simp only [if_neg h]
    obtain ⟨⟨s, a⟩, ⟨hs, ha, ha'⟩, hd⟩ := drawPlace l hw
    simp only at hs ha ha'
    refine ev_bind hd (ev_bind (impl_place s a (by omega)) (ev_bind (spec_place s a (by omega)) ?_))
    simp only [if_true, bne_self_eq_false]
    refine Ev.step (fun k => by rw [laws_FnPlaceOf.j0]) ?_
    simp only [Bool.false_eq_true, if_false]
    by_cases hv : tv (bytesOf s) = true ∧ 0 ≤ a ∧ a ≤ (s.size : Int)
    · obtain ⟨ht, h0, h1⟩ := hv
      obtain ⟨n, rfl⟩ := Int.eq_ofNat_of_zero_le h0
      have b := lastNl_bd (bytesOf s) n
      have c := cntNl_bd (bytesOf s) n
      rw [placeV_yes ht h1]
      simp only [if_neg (show ¬ (cntNl (bytesOf s) n : Int) < 0 by omega)]
      by_cases he : (n : Int) = (s.size : Int)
      · simp only [if_pos he]
        simp only [if_pos (show (n : Int) - lastNl (bytesOf s) n - 1 ≤ (n : Int) by omega)]
        refine ev_const fun k => ?_
        rw [decide_eq_true (by omega)]
      · simp only [if_neg he]
        have hi := impl_place s ((n + 1 : Nat) : Int) (by omega)
        rw [w64s (show n + 1 < 9223372036854775808 by omega)]
        refine ev_bind hi ?_
        rw [placeV_yes ht (show ((n + 1 : Nat) : Int) ≤ (s.size : Int) by omega)]
        simp only [if_pos h0, if_pos (show (n : Int) < (s.size : Int) by omega), bt_nat,
          w64s (show cntNl (bytesOf s) n + 1 < 9223372036854775808 by omega), cntNl, lastNl]
        rw [w64 (n := (n : Int) - lastNl (bytesOf s) n - 1 + 1) (by omega) (by omega)]
        by_cases e10 : (bytesOf s).getD n 0 = 10
        · simp only [if_pos e10, if_true]
          refine ev_const fun k => ?_
          congr 1
          rw [beq_iff_eq]; omega
        · simp only [if_neg e10]
          rw [if_pos (by omega)]
          refine ev_const fun k => ?_
          congr 1
          rw [beq_iff_eq]; omega
    · rw [placeV_no hv]
      simp only [show (-1 : Int) < 0 by omega, if_true]
      exact ev_bind alive_ev (Ev.now _)

end Go.Proofs.Yteloagahkphiaaa.Pure
namespace Go.Proofs.Yteloagahkphiaaa.PrintWords
/-- The word that the printed row names: a slice of whole numbers is no longer than its weight allows. -/
theorem sized_ints {H : Type} {enc : TypeId × Value → H} {P : Program} {W : World} {base : Nat} {spare : Nat → Bool} {held : Bool} {t e : TypeId} {k : IntKind} {a : Option Addr} {len cap : Nat} {d : DataW H} {ps : List MemPlace} {ts : List TypeId} {ds : List (DataW H)} {j : Nat}
    (hsz : (DataW.weightsEach P ts ds).all (· ≤ reachBytes) = true) (ht : ts[j]? = some t) (hd : ds[j]? = some d) (hu : P.underlying t = some (.slice e)) (he : P.underlying e = some (.int k)) (hc : P.cellsOf e = 1) {B : Nat} (hB : P.bytesOf e = B)
    (h : DataW.Trod enc P W base spare held t (.slice a len cap) d ps) : len * B ≤ 140737488351232 :=
  Go.Proofs.YteloagahkphiaaaW.PrintWords.sized_ints hsz ht hd hu he hc hB h
end Go.Proofs.Yteloagahkphiaaa.PrintWords
