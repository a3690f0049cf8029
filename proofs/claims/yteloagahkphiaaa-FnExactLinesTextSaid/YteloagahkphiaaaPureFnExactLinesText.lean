/- The pure statement of the law FnExactLinesText holds, and so the law's call answers true: for a slice of strings, read as one list. -/
import Derived.Test.YteloagahkphiaaaPFnExactLinesTextx2
import Derived.Test.YteloagahkphiaaaStrs
namespace Go.Proofs.Yteloagahkphiaaa.Pure
open Go.RowKit Go.Proofs.Yteloagahkphiaaa.PFnExactLinesText Go.Proofs.YteloagahkphiaaaW.PrintWords Go.Proofs.YteloagahkphiaaaW.PrintLast Go.Proofs.YteloagahkphiaaaW.PrintMore Go.Proofs.Yteloagahkphiaaa.Hand
set_option linter.unusedVariables false
set_option linter.unusedSimpArgs false

theorem w64 {n : Int} (h0 : -9223372036854775808 ≤ n) (h1 : n < 9223372036854775808) : wrap64 n = n := by
  unfold wrap64; omega
theorem w64n {n : Nat} (h1 : n < 9223372036854775808) : wrap64 (n : Int) = (n : Int) := w64 (by omega) (by omega)
theorem w64s {n : Nat} (h1 : n + 1 < 9223372036854775808) : wrap64 ((n : Int) + 1) = ((n + 1 : Nat) : Int) := by
  rw [w64 (by omega) (by omega)]; rfl
theorem ev_const {α : Type} {g : Nat → Option α} {r : α} (h : ∀ k, g k = some r) : Ev g r := ⟨0, fun k _ => h k⟩
theorem ev_bind {α β : Type} {g : Nat → Option α} {f : Nat → α → Option β} {a : α} {r : β} (h : Ev g a) (k : Ev (fun n => f n a) r) :
    Ev (fun n => (g n).bind (fun x => f n x)) r := Ev.bind h k
theorem bt_nat (s : ByteArray) (i : Nat) : bt s (i : Int) = (bytesOf s).getD i 0 := by
  rw [← rd_bytesOf]; simp [rd]
theorem drop_cons (l : List Int) (i : Nat) (h : i < l.length) : l.drop i = l.getD i 0 :: l.drop (i + 1) := by
  rw [List.drop_eq_getElem_cons h]; simp [List.getD_eq_getElem?_getD, h]
theorem bytesOf_range (s : ByteArray) : ∀ x ∈ bytesOf s, 0 ≤ x ∧ x ≤ 255 := by
  intro x hx
  unfold bytesOf at hx
  obtain ⟨b, _, rfl⟩ := List.mem_map.1 hx
  have := b.toNat_lt
  omega
theorem getD_range (s : ByteArray) (i : Nat) : 0 ≤ (bytesOf s).getD i 0 ∧ (bytesOf s).getD i 0 ≤ 255 := by
  rw [← bt_nat]; exact bt_range _ _
theorem map_byte_inj : ∀ (a b : List UInt8), a.map (fun b => (b.toNat : Int)) = b.map (fun b => (b.toNat : Int)) → a = b
  | [], [], _ => rfl
  | [], _ :: _, h => by simp at h
  | _ :: _, [], h => by simp at h
  | x :: a, y :: b, h => by
    simp only [List.map_cons, List.cons.injEq] at h
    have h1 : x = y := UInt8.toNat_inj.1 (by omega)
    rw [h1, map_byte_inj a b h.2]
theorem bytesOf_inj {a b : ByteArray} (h : bytesOf a = bytesOf b) : a = b := by
  have := map_byte_inj _ _ h
  apply ByteArray.ext
  exact Array.toList_inj.1 this
theorem bytesOf_app (a b : ByteArray) : bytesOf (a ++ b) = bytesOf a ++ bytesOf b := by
  unfold bytesOf
  rw [ByteArray.data_append]; simp
theorem bytesOf_cut (s : ByteArray) (i j : Nat) : bytesOf (s.extract i j) = ((bytesOf s).take j).drop i := by
  unfold bytesOf
  rw [ByteArray.data_extract]
  simp [List.drop_take]
theorem bytesOf_str (xs : List Int) (h : ∀ x ∈ xs, 0 ≤ x ∧ x ≤ 255) : bytesOf (strOfNums xs) = xs := by
  unfold bytesOf strOfNums
  simp only [List.map_map]
  conv => rhs; rw [← List.map_id xs]
  apply List.map_congr_left
  intro x hx
  have := h x hx
  have e : x.toNat % 256 = x.toNat := Nat.mod_eq_of_lt (by omega)
  simp only [Function.comp, UInt8.toNat_ofNat', id]
  omega
theorem str_bytes (s : ByteArray) : strOfNums (bytesOf s) = s :=
  bytesOf_inj (bytesOf_str _ (bytesOf_range s))
theorem toList_data (a : ByteArray) : a.toList = a.data.toList := ByteArray.toList_eq a
theorem toList_iff {a b : ByteArray} : a.toList = b.toList ↔ bytesOf a = bytesOf b := by
  constructor
  · intro h
    unfold bytesOf
    rw [← toList_data, ← toList_data, h]
  · intro h
    rw [bytesOf_inj h]
theorem size_bytes (s : ByteArray) : s.size = (bytesOf s).length := (bytesOf_length s).symm

theorem rdOf_nat {α : Type} (d : α) (l : List α) (j : Nat) : rdOf d l (j : Int) = l.getD j d := by unfold rdOf; rw [Int.toNat_natCast]
theorem drop_consA {α : Type} (d : α) (l : List α) (i : Nat) (h : i < l.length) : l.drop i = l.getD i d :: l.drop (i + 1) := by
  rw [List.drop_eq_getElem_cons h]; simp [List.getD_eq_getElem?_getD, h]
theorem drop_parts {α : Type} (d : α) {l R : List α} {x : α} {j : Nat} (h : l.drop j = x :: R) : j < l.length ∧ l.getD j d = x ∧ l.drop (j + 1) = R := by
  have hlt : j < l.length := by
    rcases Nat.lt_or_ge j l.length with h1 | h1
    · exact h1
    · rw [List.drop_eq_nil_iff.2 h1] at h; cases h
  rw [drop_consA d l j hlt] at h
  obtain ⟨h1, h2⟩ := List.cons.inj h
  exact ⟨hlt, h1, h2⟩
def tot : List ByteArray → Nat
  | [] => 0
  | b :: R => b.size + tot R
theorem sz_l (xs : List ByteArray) (hx : xs.length ≤ 8796093022208) (hs : ∀ s ∈ xs, s.size ≤ 9223372036854775807) : ∀ (R : List ByteArray) (j : Nat) (x : Int), xs.drop j = R → j ≤ xs.length → 0 ≤ x → x ≤ 1048576 →
    ∃ r, Ev (fun k => laws_szStringS.l0 k xs x (j : Int)) r ∧ (r < 0 ∨ (tot R : Int) ≤ x) := by
  intro R
  induction R with
  | nil =>
    intro j x hd hj h0 h1
    have hn := List.drop_eq_nil_iff.1 hd
    refine ⟨x, ?_, .inr h0⟩
    refine Ev.step (fun k => by rw [laws_szStringS.l0]) ?_
    simp only [if_neg (show ¬ (j : Int) < (xs.length : Int) by omega)]
    exact Ev.now _
  | cons b R ih =>
    intro j x hd hj h0 h1
    obtain ⟨hlt, hb, hR⟩ := drop_parts ByteArray.empty hd
    have hm : b ∈ xs := List.mem_of_mem_drop (i := j) (by rw [hd]; exact List.mem_cons_self)
    have hz := hs b hm
    have hw : wrap64 (x - (b.size : Int)) = x - (b.size : Int) := w64 (by omega) (by omega)
    by_cases hneg : x - (b.size : Int) < 0
    · refine ⟨-1, ?_, .inl (by omega)⟩
      refine Ev.step (fun k => by rw [laws_szStringS.l0]) ?_
      simp only [rdOf_nat, hb, hw, if_pos (show (j : Int) < (xs.length : Int) by omega), if_pos (show (0 : Int) ≤ (j : Int) by omega), if_pos hneg]
      exact Ev.now _
    · obtain ⟨r, hr, hc⟩ := ih (j + 1) (x - (b.size : Int)) hR (by omega) (by omega) (by omega)
      refine ⟨r, ?_, ?_⟩
      · refine Ev.step (fun k => by rw [laws_szStringS.l0]) ?_
        simp only [rdOf_nat, hb, hw, if_pos (show (j : Int) < (xs.length : Int) by omega), if_pos (show (0 : Int) ≤ (j : Int) by omega), if_neg hneg, w64s (show j + 1 < 9223372036854775808 by omega)]
        exact hr
      · rcases hc with hc | hc
        · exact .inl hc
        · right; unfold tot; omega
theorem szStr (xs : List ByteArray) (hx : xs.length ≤ 8796093022208) (hs : ∀ s ∈ xs, s.size ≤ 9223372036854775807) :
    ∃ r, Ev (fun k => laws_szStringS.f k xs 1048576) r ∧ (r < 0 ∨ xs.length + tot xs ≤ 1048576) := by
  have hw : wrap64 (1048576 - (xs.length : Int)) = 1048576 - (xs.length : Int) := w64 (by omega) (by omega)
  unfold laws_szStringS.f
  by_cases h : 1048576 - (xs.length : Int) < 0
  · refine ⟨-1, ?_, .inl (by omega)⟩
    simp only [hw, if_pos h]; exact Ev.now _
  · obtain ⟨r, hr, hc⟩ := sz_l xs hx hs xs 0 (1048576 - (xs.length : Int)) rfl (by omega) (by omega) (by omega)
    refine ⟨r, ?_, ?_⟩
    · simp only [hw, if_neg h]; exact hr
    · rcases hc with hc | hc
      · exact .inl hc
      · right; omega
theorem toStr_l (xs : List ByteArray) (hx : xs.length ≤ 8796093022208) : ∀ (d j : Nat), j + d = xs.length → Ev (fun k => laws_toStringS.l0 k xs (xs.take j ++ List.replicate d (⟨#[]⟩ : ByteArray)) (j : Int)) xs := by
  intro d
  induction d with
  | zero =>
    intro j hj
    refine Ev.step (fun k => by rw [laws_toStringS.l0]) ?_
    simp only [if_neg (show ¬ (j : Int) < (xs.length : Int) by omega), List.replicate_zero, List.append_nil, List.take_of_length_le (show xs.length ≤ j by omega)]
    exact Ev.now _
  | succ d ih =>
    intro j hj
    have h := ih (j + 1) (by omega)
    have hlen : (xs.take j ++ List.replicate (d + 1) (⟨#[]⟩ : ByteArray)).length = xs.length := by simp; omega
    have hset : (xs.take j ++ List.replicate (d + 1) (⟨#[]⟩ : ByteArray)).set j (xs.getD j ByteArray.empty) = xs.take (j + 1) ++ List.replicate d (⟨#[]⟩ : ByteArray) := by
      have ht : (xs.take j).length = j := by rw [List.length_take]; omega
      rw [List.set_append_right _ _ (by omega), ht, Nat.sub_self, List.replicate_succ, List.set_cons_zero]
      rw [List.take_add_one, List.append_assoc]
      congr 1
      rw [List.getD_eq_getElem?_getD, List.getElem?_eq_getElem (show j < xs.length by omega)]
      rfl
    refine Ev.step (fun k => by rw [laws_toStringS.l0]) ?_
    simp only [hlen, if_pos (show (j : Int) < (xs.length : Int) by omega), if_pos (show (0 : Int) ≤ (j : Int) by omega), rdOf_nat, Int.toNat_natCast, hset, w64s (show j + 1 < 9223372036854775808 by omega)]
    exact h
theorem toStr (xs : List ByteArray) (hx : xs.length ≤ 8796093022208) : Ev (fun k => laws_toStringS.f k xs) xs := by
  unfold laws_toStringS.f
  simp only [if_pos (show (0 : Int) ≤ (xs.length : Int) by omega), Int.toNat_natCast, if_pos (show xs.length ≤ 17592186044416 by omega)]
  have := toStr_l xs hx xs.length 0 (by omega)
  simpa using this

/-! texts: which bytes are plain -/
def okb (x : Int) : Bool := x == 10 || (decide (32 ≤ x) && decide (x ≤ 126))
def tv (l : List Int) : Bool := l.all okb && decide (l.length ≤ 20000)
theorem okb_ten : okb 10 = true := rfl
theorem okb_in (x : Int) (h : ¬ x = 10) : okb x = (decide (32 ≤ x) && decide (x ≤ 126)) := by
  unfold okb; rw [beq_eq_false_iff_ne.mpr h]; rfl

theorem l1In_eq (x : Int) : spec_l1In.f x 32 126 = some (decide (32 ≤ x) && decide (x ≤ 126)) := by
  unfold spec_l1In.f
  by_cases h : x ≥ 32
  · rw [if_pos h, decide_eq_true h]; rfl
  · rw [if_neg h, decide_eq_false h]; rfl
theorem spec_tv_l (s : ByteArray) (hs : s.size ≤ 140737488351232) : ∀ (l : List Int) (i : Nat), (bytesOf s).drop i = l → i ≤ s.size →
    Ev (fun k => spec_TextValid.l0 k s (i : Int)) (l.all okb && decide ((bytesOf s).length ≤ 20000)) := by
  intro l
  induction l with
  | nil =>
    intro i hl hi
    have hn : s.size = i := by
      have := List.drop_eq_nil_iff.1 hl
      rw [bytesOf_length] at this; omega
    refine Ev.step (fun k => by rw [spec_TextValid.l0]) (ev_const fun k => ?_)
    rw [if_neg (by omega), bytesOf_length]; simp; omega
  | cons x l ih =>
    intro i hl hi
    have hlt : i < s.size := by
      rcases Nat.lt_or_ge i s.size with h | h
      · exact h
      · rw [List.drop_eq_nil_iff.2 (by rw [bytesOf_length]; exact h)] at hl; cases hl
    have hd := drop_cons (bytesOf s) i (by rw [bytesOf_length]; exact hlt)
    rw [hd] at hl
    obtain ⟨hx, hl'⟩ := List.cons.inj hl
    have hr := getD_range s i
    have hb := bt_nat s i
    rw [hx] at hb hr
    have h1 := ih (i + 1) hl' (by omega)
    refine Ev.step (fun k => by rw [spec_TextValid.l0]) ?_
    simp only [hb, w64s (show i + 1 < 9223372036854775808 by omega), w64 (n := x) (by omega) (by omega), l1In_eq, Option.bind_some, show (i : Int) < (s.size : Int) by omega, show (0 : Int) ≤ (i : Int) by omega, if_true]
    by_cases h10 : x = 10
    · subst h10
      simp only [if_true, List.all_cons, okb_ten, Bool.true_and]; exact h1
    · simp only [h10, if_false, List.all_cons, okb_in x h10]
      cases hq : (decide (32 ≤ x) && decide (x ≤ 126))
      · simp; exact Ev.now _
      · simp; simpa using h1
theorem spec_tv (s : ByteArray) (hs : s.size ≤ 140737488351232) : Ev (fun k => spec_TextValid.f k s) (tv (bytesOf s)) := by
  have := spec_tv_l s hs (bytesOf s) 0 rfl (by omega)
  exact this

theorem in_eq (x : Int) : impl_in.f x 32 126 = some (decide (32 ≤ x) && decide (x ≤ 126)) := by
  unfold impl_in.f
  by_cases h : x ≥ 32
  · rw [if_pos h, decide_eq_true h]; rfl
  · rw [if_neg h, decide_eq_false h]; rfl
theorem impl_tv_l (s : ByteArray) (hs : s.size ≤ 140737488351232) : ∀ (l : List Int) (i : Nat), (bytesOf s).drop i = l → i ≤ s.size →
    Ev (fun k => impl_TextValid.l0 k s (i : Int)) (l.all okb && decide ((bytesOf s).length ≤ 20000)) := by
  intro l
  induction l with
  | nil =>
    intro i hl hi
    have hn : s.size = i := by
      have := List.drop_eq_nil_iff.1 hl
      rw [bytesOf_length] at this; omega
    refine Ev.step (fun k => by rw [impl_TextValid.l0]) (ev_const fun k => ?_)
    rw [if_neg (by omega), bytesOf_length]; simp; omega
  | cons x l ih =>
    intro i hl hi
    have hlt : i < s.size := by
      rcases Nat.lt_or_ge i s.size with h | h
      · exact h
      · rw [List.drop_eq_nil_iff.2 (by rw [bytesOf_length]; exact h)] at hl; cases hl
    have hd := drop_cons (bytesOf s) i (by rw [bytesOf_length]; exact hlt)
    rw [hd] at hl
    obtain ⟨hx, hl'⟩ := List.cons.inj hl
    have hr := getD_range s i
    have hb := bt_nat s i
    rw [hx] at hb hr
    have h1 := ih (i + 1) hl' (by omega)
    refine Ev.step (fun k => by rw [impl_TextValid.l0]) ?_
    simp only [hb, w64s (show i + 1 < 9223372036854775808 by omega), w64 (n := x) (by omega) (by omega), in_eq, Option.bind_some, show (i : Int) < (s.size : Int) by omega, show (0 : Int) ≤ (i : Int) by omega, if_true]
    by_cases h10 : x = 10
    · subst h10
      simp only [if_true, List.all_cons, okb_ten, Bool.true_and]; exact h1
    · simp only [h10, if_false, List.all_cons, okb_in x h10]
      cases hq : (decide (32 ≤ x) && decide (x ≤ 126))
      · simp; exact Ev.now _
      · simp; simpa using h1
theorem impl_tv (s : ByteArray) (hs : s.size ≤ 140737488351232) : Ev (fun k => impl_TextValid.f k s) (tv (bytesOf s)) := by
  have := impl_tv_l s hs (bytesOf s) 0 rfl (by omega)
  exact this

theorem contains_cons (x b : Int) (l : List Int) : (x :: l).contains b = (x == b || l.contains b) := by
  rw [List.contains_cons, Bool.beq_comm]
theorem has_l (s : ByteArray) (hs : s.size ≤ 140737488351232) (b : Int) : ∀ (l : List Int) (i : Nat), (bytesOf s).drop i = l → i ≤ s.size →
    Ev (fun k => spec_l1Has.l0 k s b (i : Int)) (l.contains b) := by
  intro l
  induction l with
  | nil =>
    intro i hl hi
    have hn : s.size = i := by
      have := List.drop_eq_nil_iff.1 hl
      rw [bytesOf_length] at this; omega
    refine Ev.step (fun k => by rw [spec_l1Has.l0]) (ev_const fun k => ?_)
    rw [if_neg (by omega)]; rfl
  | cons x l ih =>
    intro i hl hi
    have hlt : i < s.size := by
      rcases Nat.lt_or_ge i s.size with h | h
      · exact h
      · rw [List.drop_eq_nil_iff.2 (by rw [bytesOf_length]; exact h)] at hl; cases hl
    have hd := drop_cons (bytesOf s) i (by rw [bytesOf_length]; exact hlt)
    rw [hd] at hl
    obtain ⟨hx, hl'⟩ := List.cons.inj hl
    have hb := bt_nat s i
    rw [hx] at hb
    have h1 := ih (i + 1) hl' (by omega)
    refine Ev.step (fun k => by rw [spec_l1Has.l0]) ?_
    simp only [hb, w64s (show i + 1 < 9223372036854775808 by omega), show (i : Int) < (s.size : Int) by omega, show (0 : Int) ≤ (i : Int) by omega, if_true]
    rw [contains_cons]
    by_cases hxb : x = b
    · subst hxb
      simp only [if_true, beq_self_eq_true, Bool.true_or]; exact Ev.now _
    · simp only [if_neg hxb, beq_eq_false_iff_ne.mpr hxb, Bool.false_or]; exact h1
theorem spec_has (s : ByteArray) (hs : s.size ≤ 140737488351232) (b : Int) : Ev (fun k => spec_l1Has.f k s b) ((bytesOf s).contains b) := has_l s hs b (bytesOf s) 0 rfl (by omega)

theorem index_mem (c : UInt8) : ∀ l : List UInt8, (0 ≤ Lib.indexByte l c) ↔ c ∈ l
  | [] => by simp [Lib.indexByte]
  | b :: l => by
    have ih := index_mem c l
    have hg := Lib.indexByte_ge l c
    rw [Lib.indexByte]
    by_cases h : (b == c) = true
    · rw [if_pos h]
      have := eq_of_beq h
      subst this
      simp
    · rw [if_neg h]
      have hne : ¬ c = b := fun e => h (by rw [e]; exact beq_self_eq_true _)
      by_cases h2 : (Lib.indexByte l c == -1) = true
      · rw [if_pos h2]
        have e := eq_of_beq h2
        rw [e] at ih
        simp only [List.mem_cons, hne, false_or]
        constructor
        · intro h; omega
        · intro h; have := ih.2 h; omega
      · rw [if_neg h2]
        have e : Lib.indexByte l c ≠ -1 := fun e => h2 (by rw [e]; rfl)
        simp only [List.mem_cons, hne, false_or]
        constructor
        · intro h; exact ih.1 (by omega)
        · intro h; have := ih.2 h; omega
theorem mem_bytes (s : ByteArray) (c : UInt8) : c ∈ s.data.toList ↔ (bytesOf s).contains (c.toNat : Int) = true := by
  unfold bytesOf
  rw [List.contains_iff_mem]
  constructor
  · intro h; exact List.mem_map.2 ⟨c, h, rfl⟩
  · intro h
    obtain ⟨b, hb, e⟩ := List.mem_map.1 h
    have : b = c := UInt8.toNat_inj.1 (by omega)
    rw [← this]; exact hb

theorem hasLineEnd_eq (s : ByteArray) : impl_hasLineEnd.f s = some ((bytesOf s).contains 10) := by
  unfold impl_hasLineEnd.f strings_Contains.f
  have h1 : (⟨#[10]⟩ : ByteArray).size = 1 := rfl
  rw [if_pos h1]
  simp only [Option.bind_some]
  congr 1
  rw [Bool.eq_iff_iff, decide_eq_true_iff]
  show 0 ≤ Lib.indexByte s.data.toList 10 ↔ _
  rw [index_mem, mem_bytes]; rfl

def nlB (b : ByteArray) : Bool := (bytesOf b).contains 10
def ltOk : List ByteArray → Nat → Bool
  | [], _ => true
  | b :: R, n => tv (bytesOf b) && !nlB b && decide (n + b.size + 1 ≤ 20000) && ltOk R (n + b.size + 1)
def ok1 : List ByteArray → Nat → Bool
  | [], _ => true
  | b :: R, n => !nlB b && decide (n + b.size + 1 ≤ 20000) && ok1 R (n + b.size + 1)
def joinB : List ByteArray → ByteArray
  | [] => ⟨#[]⟩
  | b :: R => (b ++ (⟨#[10]⟩ : ByteArray)) ++ joinB R
theorem nl_size : (⟨#[10]⟩ : ByteArray).size = 1 := rfl
theorem joinB_size (R : List ByteArray) : ∀ n, ok1 R n = true → n ≤ 20000 → (joinB R).size + n ≤ 20000 := by
  induction R with
  | nil => intro n _ h; show 0 + n ≤ _; omega
  | cons b R ih =>
    intro n h hn
    simp only [ok1, Bool.and_eq_true, decide_eq_true_iff] at h
    have := ih _ h.2 h.1.2
    simp only [joinB, ByteArray.size_append, nl_size]; omega
theorem ltOk_eq (R : List ByteArray) : ∀ n, ltOk R n = (ok1 R n && (bytesOf (joinB R)).all okb) := by
  induction R with
  | nil => intro n; rfl
  | cons b R ih =>
    intro n
    simp only [ltOk, ok1, ih, joinB, bytesOf_app, List.all_append]
    have hk : (bytesOf (⟨#[10]⟩ : ByteArray)).all okb = true := rfl
    rw [hk, Bool.and_true]
    by_cases hn : n + b.size + 1 ≤ 20000
    · have ht : tv (bytesOf b) = (bytesOf b).all okb := by
        unfold tv; rw [decide_eq_true (by rw [bytesOf_length]; omega), Bool.and_true]
      rw [ht]
      cases (bytesOf b).all okb <;> cases nlB b <;> cases ok1 R (n + b.size + 1) <;> simp
    · simp [hn]
def ltRes (R : List ByteArray) (o : ByteArray) : ByteArray × Bool := if ltOk R o.size then (o ++ joinB R, true) else ((⟨#[]⟩ : ByteArray), false)
theorem app_empty (o : ByteArray) : o ++ (⟨#[]⟩ : ByteArray) = o := by
  apply bytesOf_inj; rw [bytesOf_app]; exact List.append_nil _
theorem empty_app (o : ByteArray) : (⟨#[]⟩ : ByteArray) ++ o = o := by
  apply bytesOf_inj; rw [bytesOf_app]; rfl
theorem app_assoc (a b c : ByteArray) : (a ++ b) ++ c = a ++ (b ++ c) := by
  apply bytesOf_inj; simp only [bytesOf_app, List.append_assoc]
theorem tot_mem {xs : List ByteArray} {b : ByteArray} (h : b ∈ xs) : b.size ≤ tot xs := by
  induction xs with
  | nil => cases h
  | cons c R ih =>
    unfold tot
    rcases List.mem_cons.1 h with rfl | h
    · omega
    · have := ih h; omega
theorem specLT_l (xs : List ByteArray) (hx : xs.length + tot xs ≤ 1048576) : ∀ (R : List ByteArray) (j : Nat) (o : ByteArray), xs.drop j = R → j ≤ xs.length → o.size ≤ 20000 →
    Ev (fun k => spec_LinesText.l0 k xs o (j : Int)) (ltRes R o) := by
  intro R
  induction R with
  | nil =>
    intro j o hd hj ho
    have hn := List.drop_eq_nil_iff.1 hd
    refine Ev.step (fun k => by rw [spec_LinesText.l0]) ?_
    simp only [if_neg (show ¬ (j : Int) < (xs.length : Int) by omega), ltRes, ltOk, if_true, joinB, app_empty]
    exact Ev.now _
  | cons b R ih =>
    intro j o hd hj ho
    obtain ⟨hlt, hb, hR⟩ := drop_parts ByteArray.empty hd
    have hm : b ∈ xs := List.mem_of_mem_drop (i := j) (by rw [hd]; exact List.mem_cons_self)
    have hz := tot_mem hm
    refine Ev.step (fun k => by rw [spec_LinesText.l0]) ?_
    simp only [rdOf_nat, hb, if_pos (show (j : Int) < (xs.length : Int) by omega), if_pos (show (0 : Int) ≤ (j : Int) by omega), w64s (show j + 1 < 9223372036854775808 by omega)]
    refine ev_bind (spec_tv b (by omega)) ?_
    cases ht : tv (bytesOf b)
    · simp only [ltRes, ltOk, ht, Bool.false_and, Bool.false_eq_true, if_false]; exact Ev.now _
    · simp only [if_true]
      refine ev_bind (spec_has b (by omega) 10) ?_
      cases hn : (bytesOf b).contains 10
      · have e : wrap64 ((wrap64 ((o.size : Int) + (b.size : Int))) + 1) = (o.size : Int) + (b.size : Int) + 1 := by
          rw [w64 (n := (o.size : Int) + (b.size : Int)) (by omega) (by omega), w64 (by omega) (by omega)]
        simp only [Bool.false_eq_true, if_false, e]
        by_cases h2 : (o.size : Int) + (b.size : Int) + 1 > 20000
        · simp only [if_pos h2, ltRes, ltOk, decide_eq_false (show ¬ o.size + b.size + 1 ≤ 20000 by omega), Bool.and_false, Bool.false_and, Bool.false_eq_true, if_false]; exact Ev.now _
        · have h := ih (j + 1) ((o ++ b) ++ (⟨#[10]⟩ : ByteArray)) hR (by omega) (by rw [ByteArray.size_append, ByteArray.size_append, nl_size]; omega)
          have hres : ltRes (b :: R) o = ltRes R ((o ++ b) ++ (⟨#[10]⟩ : ByteArray)) := by
            unfold ltRes
            rw [ByteArray.size_append, ByteArray.size_append, nl_size]
            simp only [ltOk, ht, nlB, hn, decide_eq_true (show o.size + b.size + 1 ≤ 20000 by omega), joinB, app_assoc, Bool.not_false, Bool.and_true, Bool.true_and]
          rw [hres]
          simp only [if_neg h2, if_pos (show o.size + b.size ≤ 9223372036854775807 by omega), ByteArray.size_append, if_pos (show o.size + b.size + 1 ≤ 9223372036854775807 by omega)]
          exact h
      · simp only [if_true, ltRes, ltOk, nlB, hn, Bool.not_true, Bool.and_false, Bool.false_and, Bool.false_eq_true, if_false]; exact Ev.now _
theorem specLT (xs : List ByteArray) (hx : xs.length + tot xs ≤ 1048576) : Ev (fun k => spec_LinesText.f k xs) (ltRes xs (⟨#[]⟩ : ByteArray)) :=
  specLT_l xs hx xs 0 _ rfl (by omega) (by show 0 ≤ _; omega)
def ltEnd (t : ByteArray) : ByteArray × Bool := if tv (bytesOf t) then (t, true) else ((⟨#[]⟩ : ByteArray), false)
theorem implLT_l1 (xs : List ByteArray) (hx : xs.length + tot xs ≤ 1048576) : ∀ (R : List ByteArray) (j : Nat) (o : ByteArray), xs.drop j = R → j ≤ xs.length → o.size + (joinB R).size ≤ 20000 →
    Ev (fun k => impl_LinesText.l1 k o xs (xs.length : Int) (j : Int)) (ltEnd (o ++ joinB R)) := by
  intro R
  induction R with
  | nil =>
    intro j o hd hj ho
    have hn := List.drop_eq_nil_iff.1 hd
    refine Ev.step (fun k => by rw [impl_LinesText.l1]) ?_
    simp only [if_neg (show ¬ (j : Int) < (xs.length : Int) by omega), joinB, app_empty, ltEnd]
    refine ev_bind (impl_tv o (by omega)) ?_
    cases tv (bytesOf o)
    · simp only [Bool.false_eq_true, if_false]; exact Ev.now _
    · simp only [if_true]; exact Ev.now _
  | cons b R ih =>
    intro j o hd hj ho
    obtain ⟨hlt, hb, hR⟩ := drop_parts ByteArray.empty hd
    simp only [joinB, ByteArray.size_append, nl_size] at ho
    have h := ih (j + 1) (o ++ (b ++ (⟨#[10]⟩ : ByteArray))) hR (by omega) (by simp only [ByteArray.size_append, nl_size]; omega)
    refine Ev.step (fun k => by rw [impl_LinesText.l1]) ?_
    simp only [rdOf_nat, hb, if_pos (show (j : Int) < (xs.length : Int) by omega), if_pos (show (0 : Int) ≤ (j : Int) by omega), w64s (show j + 1 < 9223372036854775808 by omega), ByteArray.size_append, nl_size,
      if_pos (show b.size + 1 ≤ 9223372036854775807 by omega), if_pos (show o.size + (b.size + 1) ≤ 9223372036854775807 by omega)]
    rw [joinB, show o ++ ((b ++ (⟨#[10]⟩ : ByteArray)) ++ joinB R) = (o ++ (b ++ (⟨#[10]⟩ : ByteArray))) ++ joinB R from (app_assoc _ _ _).symm]
    exact h
theorem implLT_l0 (xs : List ByteArray) (hx : xs.length + tot xs ≤ 1048576) : ∀ (R : List ByteArray) (j : Nat) (n : Nat), xs.drop j = R → j ≤ xs.length → n ≤ 20000 →
    (ok1 R n = true → (joinB xs).size ≤ 20000) →
    Ev (fun k => impl_LinesText.l0 k xs (n : Int) xs (xs.length : Int) (j : Int)) (if ok1 R n then ltEnd (joinB xs) else ((⟨#[]⟩ : ByteArray), false)) := by
  intro R
  induction R with
  | nil =>
    intro j n hd hj hn hsz
    have hn := List.drop_eq_nil_iff.1 hd
    refine Ev.step (fun k => by rw [impl_LinesText.l0]) ?_
    simp only [if_neg (show ¬ (j : Int) < (xs.length : Int) by omega), ok1, if_true]
    have := implLT_l1 xs hx xs 0 (⟨#[]⟩ : ByteArray) rfl (by omega) (by have := hsz rfl; show 0 + _ ≤ _; omega)
    rw [empty_app] at this
    exact this
  | cons b R ih =>
    intro j n hd hj hn hsz
    obtain ⟨hlt, hb, hR⟩ := drop_parts ByteArray.empty hd
    have hm : b ∈ xs := List.mem_of_mem_drop (i := j) (by rw [hd]; exact List.mem_cons_self)
    have hz := tot_mem hm
    have e : wrap64 ((n : Int) + (wrap64 ((b.size : Int) + 1))) = ((n + b.size + 1 : Nat) : Int) := by
      rw [w64 (n := (b.size : Int) + 1) (by omega) (by omega), w64 (by omega) (by omega)]; omega
    refine Ev.step (fun k => by rw [impl_LinesText.l0]) ?_
    simp only [rdOf_nat, hb, if_pos (show (j : Int) < (xs.length : Int) by omega), if_pos (show (0 : Int) ≤ (j : Int) by omega), w64s (show j + 1 < 9223372036854775808 by omega), hasLineEnd_eq, Option.bind_some, e]
    cases hc : (bytesOf b).contains 10
    · simp only [Bool.false_eq_true, if_false]
      by_cases h2 : ((n + b.size + 1 : Nat) : Int) > 20000
      · simp only [if_pos h2, ok1, decide_eq_false (show ¬ n + b.size + 1 ≤ 20000 by omega), Bool.and_false, Bool.false_and, Bool.false_eq_true, if_false]; exact Ev.now _
      · have hk : ok1 (b :: R) n = ok1 R (n + b.size + 1) := by
          simp only [ok1, nlB, hc, decide_eq_true (show n + b.size + 1 ≤ 20000 by omega), Bool.not_false, Bool.true_and]
        rw [hk]
        rw [hk] at hsz
        simp only [if_neg h2]
        exact ih (j + 1) (n + b.size + 1) hR (by omega) (by omega) hsz
    · simp only [if_true, ok1, nlB, hc, Bool.not_true, Bool.false_and, Bool.false_eq_true, if_false]; exact Ev.now _
theorem ltRes_impl (xs : List ByteArray) : (if ok1 xs 0 then ltEnd (joinB xs) else ((⟨#[]⟩ : ByteArray), false)) = ltRes xs (⟨#[]⟩ : ByteArray) := by
  unfold ltRes
  rw [show (⟨#[]⟩ : ByteArray).size = 0 from rfl, ltOk_eq, empty_app]
  cases h : ok1 xs 0
  · simp
  · have hz := joinB_size xs 0 h (by omega)
    have ht : tv (bytesOf (joinB xs)) = (bytesOf (joinB xs)).all okb := by
      unfold tv; rw [decide_eq_true (by rw [bytesOf_length]; omega), Bool.and_true]
    simp only [if_true, Bool.true_and, ltEnd, ht]
theorem implLT (xs : List ByteArray) (hx : xs.length + tot xs ≤ 1048576) : Ev (fun k => impl_LinesText.f k xs) (ltRes xs (⟨#[]⟩ : ByteArray)) := by
  have h := implLT_l0 xs hx xs 0 0 rfl (by omega) (by omega) (fun h => by have := joinB_size xs 0 h (by omega); omega)
  rw [ltRes_impl] at h
  exact h

theorem eqStr_l (xs : List ByteArray) (hl : xs.length ≤ 1099511627776) : ∀ (d j : Nat), j + d = xs.length → Ev (fun k => laws_eqStringS.l0 k xs xs (j : Int)) true := by
  intro d
  induction d with
  | zero =>
    intro j hj
    refine Ev.step (fun k => by rw [laws_eqStringS.l0]) ?_
    simp only [if_neg (show ¬ (j : Int) < (xs.length : Int) by omega)]
    exact Ev.now _
  | succ d ih =>
    intro j hj
    have h := ih (j + 1) (by omega)
    refine Ev.step (fun k => by rw [laws_eqStringS.l0]) ?_
    simp only [if_pos (show (j : Int) < (xs.length : Int) by omega), if_pos (show (0 : Int) ≤ (j : Int) by omega), if_true, w64s (show j + 1 < 9223372036854775808 by omega)]
    exact h
theorem eqStr (xs : List ByteArray) (hl : xs.length ≤ 1099511627776) : Ev (fun k => laws_eqStringS.f k xs xs) true := by
  unfold laws_eqStringS.f
  simp only [if_true]
  exact eqStr_l xs hl xs.length 0 (by omega)

theorem FnExactLinesText_pure (xs : List ByteArray) (hx : xs.length * 16 ≤ 140737488351232) (hs : ∀ s ∈ xs, s.size ≤ 9223372036854775807) : Ev (fun k => laws_FnExactLinesText.f k xs) true := by
  unfold laws_FnExactLinesText.f
  obtain ⟨r, hr, hc⟩ := szStr xs (by omega) hs
  refine ev_bind hr ?_
  by_cases hneg : r < 0
  · simp only [if_pos hneg]; exact Ev.now _
  · have hz : xs.length + tot xs ≤ 1048576 := by omega
    simp only [if_neg hneg]
    refine ev_bind (toStr xs (by omega)) (ev_bind (specLT xs hz) (ev_bind (toStr xs (by omega)) (ev_bind (implLT xs hz) ?_)))
    simp only [if_true, bne_self_eq_false]
    refine Ev.step (fun k => by rw [laws_FnExactLinesText.j0]) ?_
    simp only [Bool.false_eq_true, if_false]
    refine ev_bind (toStr xs (by omega)) (ev_bind (eqStr xs (by omega)) ?_)
    simp only [if_true]
    exact Ev.now _
theorem FnExactLinesText_walk (A : Option Addr) (l : List ByteArray) (c : Nat) (W : World) (h : Go.Proofs.Yteloagahkphiaaa.Strs.Reads W A l.length c l) :
    Calls Try.prog 3 #[.slice A l.length c] W fun e W' => e = .returned (.bool true) ∧ Below W.heap.size W W' := by
  obtain ⟨hr, hc, hb, hz⟩ := h
  obtain ⟨k, hk⟩ := FnExactLinesText_pure l hb hz
  exact laws_FnExactLinesText.calls k A c l true W hr hc (hk k (Nat.le_refl _))

end Go.Proofs.Yteloagahkphiaaa.Pure
