/- The pure statement of the law FnTokensOf holds: for every input that meets the bounds in the statement, the printed function of the law, given enough rounds, answers true. -/
import Derived.Test.YtfpchmlcifboeaaPToksx8
import Derived.Test.YtfpchmlcifboeaaWSized
namespace Go.Proofs.Ytfpchmlcifboeaa.Pure
open Go.RowKit Go.Proofs.Ytfpchmlcifboeaa.PToks Go.Proofs.YtfpchmlcifboeaaW.PrintWords Go.Proofs.YtfpchmlcifboeaaW.PrintLast Go.Proofs.YtfpchmlcifboeaaW.PrintMore Go.Proofs.Ytfpchmlcifboeaa.Hand
set_option linter.unusedVariables false
set_option linter.unusedSimpArgs false

theorem w64 {n : Int} (h0 : -9223372036854775808 ≤ n) (h1 : n < 9223372036854775808) : wrap64 n = n := by
  unfold wrap64; omega
theorem w64n {n : Nat} (h1 : n < 9223372036854775808) : wrap64 (n : Int) = (n : Int) := w64 (by omega) (by omega)
theorem w64s {n : Nat} (h1 : n + 1 < 9223372036854775808) : wrap64 ((n : Int) + 1) = ((n + 1 : Nat) : Int) := by
  rw [w64 (by omega) (by omega)]; rfl
theorem ev_const {α : Type} {g : Nat → Option α} {r : α} (h : ∀ k, g k = some r) : Ev g r := ⟨0, fun k _ => h k⟩
theorem ev_bind {α β : Type} {g : Nat → Option α} {f : Nat → α → Option β} {a : α} {r : β} (h : Ev g a) (k : Ev (fun n => f n a) r) :
    Ev (fun n => (g n).bind (fun x => f n x)) r := Ev.bind h k
theorem bt_nat (s : ByteArray) (i : Nat) : bt s (i : Int) = (bytesOf s).getD i 0 := by
  rw [← rd_bytesOf]; simp [rd]
theorem drop_cons (l : List Int) (i : Nat) (h : i < l.length) : l.drop i = l.getD i 0 :: l.drop (i + 1) := by
  rw [List.drop_eq_getElem_cons h]; simp [List.getD_eq_getElem?_getD, h]
theorem bytesOf_range (s : ByteArray) : ∀ x ∈ bytesOf s, 0 ≤ x ∧ x ≤ 255 := by
  intro x hx
  unfold bytesOf at hx
  obtain ⟨b, _, rfl⟩ := List.mem_map.1 hx
  have := b.toNat_lt
  omega
theorem getD_range (s : ByteArray) (i : Nat) : 0 ≤ (bytesOf s).getD i 0 ∧ (bytesOf s).getD i 0 ≤ 255 := by
  rw [← bt_nat]; exact bt_range _ _
theorem map_byte_inj : ∀ (a b : List UInt8), a.map (fun b => (b.toNat : Int)) = b.map (fun b => (b.toNat : Int)) → a = b
  | [], [], _ => rfl
  | [], _ :: _, h => by simp at h
  | _ :: _, [], h => by simp at h
  | x :: a, y :: b, h => by
    simp only [List.map_cons, List.cons.injEq] at h
    have h1 : x = y := UInt8.toNat_inj.1 (by omega)
    rw [h1, map_byte_inj a b h.2]
theorem bytesOf_inj {a b : ByteArray} (h : bytesOf a = bytesOf b) : a = b := by
  have := map_byte_inj _ _ h
  apply ByteArray.ext
  exact Array.toList_inj.1 this
theorem bytesOf_app (a b : ByteArray) : bytesOf (a ++ b) = bytesOf a ++ bytesOf b := by
  unfold bytesOf
  rw [ByteArray.data_append]; simp
theorem bytesOf_cut (s : ByteArray) (i j : Nat) : bytesOf (s.extract i j) = ((bytesOf s).take j).drop i := by
  unfold bytesOf
  rw [ByteArray.data_extract]
  simp [List.drop_take]
theorem bytesOf_str (xs : List Int) (h : ∀ x ∈ xs, 0 ≤ x ∧ x ≤ 255) : bytesOf (strOfNums xs) = xs := by
  unfold bytesOf strOfNums
  simp only [List.map_map]
  conv => rhs; rw [← List.map_id xs]
  apply List.map_congr_left
  intro x hx
  have := h x hx
  have e : x.toNat % 256 = x.toNat := Nat.mod_eq_of_lt (by omega)
  simp only [Function.comp, UInt8.toNat_ofNat', id]
  omega
theorem str_bytes (s : ByteArray) : strOfNums (bytesOf s) = s :=
  bytesOf_inj (bytesOf_str _ (bytesOf_range s))
theorem toList_data (a : ByteArray) : a.toList = a.data.toList := ByteArray.toList_eq a
theorem toList_iff {a b : ByteArray} : a.toList = b.toList ↔ bytesOf a = bytesOf b := by
  constructor
  · intro h
    unfold bytesOf
    rw [← toList_data, ← toList_data, h]
  · intro h
    rw [bytesOf_inj h]
theorem size_bytes (s : ByteArray) : s.size = (bytesOf s).length := (bytesOf_length s).symm

/-! texts: which bytes are plain -/
def okb (x : Int) : Bool := x == 10 || (decide (32 ≤ x) && decide (x ≤ 126))
def tv (l : List Int) : Bool := l.all okb && decide (l.length ≤ 20000)
theorem okb_ten : okb 10 = true := rfl
theorem okb_in (x : Int) (h : ¬ x = 10) : okb x = (decide (32 ≤ x) && decide (x ≤ 126)) := by
  unfold okb; rw [beq_eq_false_iff_ne.mpr h]; rfl

/-! tokens of a text, as lists of bytes -/
def letb (x : Int) : Bool := decide (97 ≤ x) && decide (x ≤ 122)
def digb (x : Int) : Bool := decide (48 ≤ x) && decide (x ≤ 57)
def nameb (x : Int) : Bool := letb x || digb x || x == 95 || x == 46
def numb (x : Int) : Bool := digb x || x == 46
def sgn2 (x y : Int) : Bool := (x == 60 && y == 61) || (x == 62 && y == 61) || (x == 61 && y == 61) || (x == 33 && y == 61) || (x == 38 && y == 38) || (x == 124 && y == 124)
def sgns : List Int := [33, 45, 42, 47, 37, 43, 60, 62, 63, 58, 40, 41, 91, 93, 44]
def sgn1 (x : Int) : Bool := sgns.contains x
/-- how many bytes there are up to the quotation mark that ends a text, it included. -/
def qend : List Int → Option Nat
  | [] => none
  | [x] => if x = 34 then some 1 else none
  | x :: y :: l => if x = 34 then some 1 else if x = 92 then (qend l).map (· + 2) else (qend (y :: l)).map (· + 1)
/-- the sign that a text begins with: its length. -/
def sg2 (x : Int) : List Int → Bool
  | [] => false
  | y :: _ => sgn2 x y
def sgnLen (x : Int) (l : List Int) : Option Nat := if sg2 x l = true then some 2 else if sgn1 x = true then some 1 else none
/-- the token that a text begins with: its kind and its length. -/
def tok : List Int → Option (Int × Nat)
  | [] => none
  | x :: l => if letb x = true then some (1, 1 + (l.takeWhile nameb).length)
    else if digb x = true then some (2, 1 + (l.takeWhile numb).length)
    else if x = 34 then (qend l).map fun n => (3, 1 + n)
    else (sgnLen x l).map fun n => (4, n)
theorem qend_le : ∀ (n : Nat) (l : List Int), l.length ≤ n → ∀ m, qend l = some m → 1 ≤ m ∧ m ≤ l.length := by
  intro n
  induction n with
  | zero =>
    intro l hn m h
    have : l = [] := List.length_eq_zero_iff.1 (by omega)
    subst this; simp [qend] at h
  | succ n ih =>
    intro l hn m h
    match l, hn, h with
    | [], _, h => simp [qend] at h
    | [x], hn, h =>
      rw [qend] at h
      split at h
      · have := Option.some.inj h
        simp only [List.length_cons, List.length_nil]; omega
      · cases h
    | x :: y :: l, hn, h =>
      rw [qend] at h
      simp only [List.length_cons] at hn ⊢
      split at h
      · have := Option.some.inj h
        omega
      · split at h
        · obtain ⟨k, hk, rfl⟩ := Option.map_eq_some_iff.1 h
          have := ih l (by omega) k hk
          omega
        · obtain ⟨k, hk, rfl⟩ := Option.map_eq_some_iff.1 h
          have := ih (y :: l) (by simp only [List.length_cons]; omega) k hk
          simp only [List.length_cons] at this
          omega
theorem takeWhile_le {p : Int → Bool} (l : List Int) : (l.takeWhile p).length ≤ l.length := List.IsPrefix.length_le (List.takeWhile_prefix p)
theorem tok_le (M : List Int) (k : Int) (n : Nat) (h : tok M = some (k, n)) : 1 ≤ n ∧ n ≤ M.length := by
  match M, h with
  | x :: l, h =>
    rw [tok] at h
    simp only [List.length_cons]
    split at h
    · have := takeWhile_le (p := nameb) l
      simp only [Option.some.injEq, Prod.mk.injEq] at h
      omega
    · split at h
      · have := takeWhile_le (p := numb) l
        simp only [Option.some.injEq, Prod.mk.injEq] at h
        omega
      · split at h
        · obtain ⟨m, hm, he⟩ := Option.map_eq_some_iff.1 h
          have := qend_le _ l (Nat.le_refl _) m hm
          simp only [Prod.mk.injEq] at he
          omega
        · obtain ⟨m, hm, he⟩ := Option.map_eq_some_iff.1 h
          simp only [Prod.mk.injEq] at he
          unfold sgnLen at hm
          split at hm
          · rename_i h2
            have := Option.some.inj hm
            cases l with
            | nil => simp [sg2] at h2
            | cons y l' => simp only [List.length_cons]; omega
          · split at hm
            · have := Option.some.inj hm
              omega
            · cases hm
/-- the tokens of a text that stands at a place; `n`: at least as many rounds as it has bytes. -/
def toks : Nat → List Int → Nat → Option (List (Int × Nat × Nat))
  | 0, [], _ => some []
  | 0, _ :: _, _ => none
  | _ + 1, [], _ => some []
  | n + 1, x :: l, i => if x = 32 then toks n l (i + 1) else
      match tok (x :: l) with
      | none => none
      | some (k, m) => (toks n ((x :: l).drop m) (i + m)).map fun ts => (k, i, i + m) :: ts
theorem toks_more : ∀ (n : Nat) (M : List Int) (i m : Nat), M.length ≤ n → M.length ≤ m → toks n M i = toks m M i := by
  intro n
  induction n with
  | zero =>
    intro M i m hn hm
    have : M = [] := List.length_eq_zero_iff.1 (by omega)
    subst this
    cases m <;> rfl
  | succ n ih =>
    intro M i m hn hm
    match M, hn, hm with
    | [], _, _ => cases m <;> rfl
    | x :: l, hn, hm =>
      simp only [List.length_cons] at hn hm
      cases m with
      | zero => omega
      | succ m =>
        rw [toks, toks]
        by_cases h32 : x = 32
        · rw [if_pos h32, if_pos h32]
          exact ih l (i + 1) m (by omega) (by omega)
        · rw [if_neg h32, if_neg h32]
          cases ht : tok (x :: l) with
          | none => rfl
          | some p =>
            obtain ⟨k, q⟩ := p
            have := tok_le _ k q ht
            simp only [List.length_cons] at this
            simp only
            rw [ih _ _ m (by rw [List.length_drop]; simp only [List.length_cons]; omega) (by rw [List.length_drop]; simp only [List.length_cons]; omega)]
def toksOf (L : List Int) : Option (List (Int × Nat × Nat)) := if tv L = true ∧ L.contains 10 = false then toks L.length L 0 else none

/-- tokens as the program's structs. -/
def tk (p : Int × Nat × Nat) : S33 := ⟨p.1, (p.2.1 : Int), (p.2.2 : Int)⟩
def tokR (r : Option (List (Int × Nat × Nat))) (o : List S33) : List S33 × Bool := match r with | none => ([], false) | some ts => (o ++ ts.map tk, true)
theorem tok_kind {M : List Int} {k : Int} {n : Nat} (h : tok M = some (k, n)) : 1 ≤ k ∧ k ≤ 4 := by
  match M, h with
  | x :: l, h =>
    rw [tok] at h
    split at h
    · simp only [Option.some.injEq, Prod.mk.injEq] at h; omega
    · split at h
      · simp only [Option.some.injEq, Prod.mk.injEq] at h; omega
      · split at h
        · obtain ⟨m, hm, he⟩ := Option.map_eq_some_iff.1 h
          simp only [Prod.mk.injEq] at he; omega
        · obtain ⟨m, hm, he⟩ := Option.map_eq_some_iff.1 h
          simp only [Prod.mk.injEq] at he; omega

theorem l1In_eq (x : Int) : spec_l1In.f x 32 126 = some (decide (32 ≤ x) && decide (x ≤ 126)) := by
  unfold spec_l1In.f
  by_cases h : x ≥ 32
  · rw [if_pos h, decide_eq_true h]; rfl
  · rw [if_neg h, decide_eq_false h]; rfl
theorem spec_tv_l (s : ByteArray) (hs : s.size ≤ 140737488351232) : ∀ (l : List Int) (i : Nat), (bytesOf s).drop i = l → i ≤ s.size →
    Ev (fun k => spec_TextValid.l0 k s (i : Int)) (l.all okb && decide ((bytesOf s).length ≤ 20000)) := by
  intro l
  induction l with
  | nil =>
    intro i hl hi
    have hn : s.size = i := by
      have := List.drop_eq_nil_iff.1 hl
      rw [bytesOf_length] at this; omega
    refine Ev.step (fun k => by rw [spec_TextValid.l0]) (ev_const fun k => ?_)
    rw [if_neg (by omega), bytesOf_length]; simp; omega
  | cons x l ih =>
    intro i hl hi
    have hlt : i < s.size := by
      rcases Nat.lt_or_ge i s.size with h | h
      · exact h
      · rw [List.drop_eq_nil_iff.2 (by rw [bytesOf_length]; exact h)] at hl; cases hl
    have hd := drop_cons (bytesOf s) i (by rw [bytesOf_length]; exact hlt)
    rw [hd] at hl
    obtain ⟨hx, hl'⟩ := List.cons.inj hl
    have hr := getD_range s i
    have hb := bt_nat s i
    rw [hx] at hb hr
    have h1 := ih (i + 1) hl' (by omega)
    refine Ev.step (fun k => by rw [spec_TextValid.l0]) ?_
    simp only [hb, w64s (show i + 1 < 9223372036854775808 by omega), w64 (n := x) (by omega) (by omega), l1In_eq, Option.bind_some, show (i : Int) < (s.size : Int) by omega, show (0 : Int) ≤ (i : Int) by omega, if_true]
    by_cases h10 : x = 10
    · subst h10
      simp only [if_true, List.all_cons, okb_ten, Bool.true_and]; exact h1
    · simp only [h10, if_false, List.all_cons, okb_in x h10]
      cases hq : (decide (32 ≤ x) && decide (x ≤ 126))
      · simp; exact Ev.now _
      · simp; simpa using h1
theorem spec_tv (s : ByteArray) (hs : s.size ≤ 140737488351232) : Ev (fun k => spec_TextValid.f k s) (tv (bytesOf s)) := by
  have := spec_tv_l s hs (bytesOf s) 0 rfl (by omega)
  exact this

theorem contains_cons (x b : Int) (l : List Int) : (x :: l).contains b = (x == b || l.contains b) := by
  rw [List.contains_cons, Bool.beq_comm]
theorem has_l (s : ByteArray) (hs : s.size ≤ 140737488351232) (b : Int) : ∀ (l : List Int) (i : Nat), (bytesOf s).drop i = l → i ≤ s.size →
    Ev (fun k => spec_l1Has.l0 k s b (i : Int)) (l.contains b) := by
  intro l
  induction l with
  | nil =>
    intro i hl hi
    have hn : s.size = i := by
      have := List.drop_eq_nil_iff.1 hl
      rw [bytesOf_length] at this; omega
    refine Ev.step (fun k => by rw [spec_l1Has.l0]) (ev_const fun k => ?_)
    rw [if_neg (by omega)]; rfl
  | cons x l ih =>
    intro i hl hi
    have hlt : i < s.size := by
      rcases Nat.lt_or_ge i s.size with h | h
      · exact h
      · rw [List.drop_eq_nil_iff.2 (by rw [bytesOf_length]; exact h)] at hl; cases hl
    have hd := drop_cons (bytesOf s) i (by rw [bytesOf_length]; exact hlt)
    rw [hd] at hl
    obtain ⟨hx, hl'⟩ := List.cons.inj hl
    have hb := bt_nat s i
    rw [hx] at hb
    have h1 := ih (i + 1) hl' (by omega)
    refine Ev.step (fun k => by rw [spec_l1Has.l0]) ?_
    simp only [hb, w64s (show i + 1 < 9223372036854775808 by omega), show (i : Int) < (s.size : Int) by omega, show (0 : Int) ≤ (i : Int) by omega, if_true]
    rw [contains_cons]
    by_cases hxb : x = b
    · subst hxb
      simp only [if_true, beq_self_eq_true, Bool.true_or]; exact Ev.now _
    · simp only [if_neg hxb, beq_eq_false_iff_ne.mpr hxb, Bool.false_or]; exact h1
theorem spec_has (s : ByteArray) (hs : s.size ≤ 140737488351232) (b : Int) : Ev (fun k => spec_l1Has.f k s b) ((bytesOf s).contains b) := has_l s hs b (bytesOf s) 0 rfl (by omega)

theorem lt_of_drop {s : ByteArray} {x : Int} {l : List Int} {i : Nat} (hl : (bytesOf s).drop i = x :: l) : i < s.size := by
  rcases Nat.lt_or_ge i s.size with h | h
  · exact h
  · rw [List.drop_eq_nil_iff.2 (by rw [bytesOf_length]; exact h)] at hl; cases hl
theorem drop_split {s : ByteArray} {x : Int} {l : List Int} {i : Nat} (hl : (bytesOf s).drop i = x :: l) (h : i < s.size) : (bytesOf s).getD i 0 = x ∧ (bytesOf s).drop (i + 1) = l := by
  rw [drop_cons (bytesOf s) i (by rw [bytesOf_length]; exact h)] at hl
  exact List.cons.inj hl
theorem cut_two (s : ByteArray) (i : Nat) (h : i + 1 < s.size) : bytesOf (s.extract i (i + 2)) = [(bytesOf s).getD i 0, (bytesOf s).getD (i + 1) 0] := by
  rw [bytesOf_cut, List.drop_take, drop_cons (bytesOf s) i (by rw [bytesOf_length]; omega), drop_cons (bytesOf s) (i + 1) (by rw [bytesOf_length]; omega)]
  rw [show i + 2 - i = 2 by omega]; rfl
theorem toList_two (t : ByteArray) (a b : UInt8) (x y : Int) (h : bytesOf t = [x, y]) : (t.toList = [a, b]) ↔ (x = (a.toNat : Int) ∧ y = (b.toNat : Int)) := by
  have e : t.toList = [a, b] ↔ bytesOf t = bytesOf (⟨#[a, b]⟩ : ByteArray) := by
    rw [← toList_iff, toList_data (⟨#[a, b]⟩ : ByteArray)]
  rw [e, h, show bytesOf (⟨#[a, b]⟩ : ByteArray) = [(a.toNat : Int), (b.toNat : Int)] from rfl]
  simp

theorem sletb (x : Int) : spec_l3Letter.f x = some (letb x) := by
  unfold spec_l3Letter.f letb
  by_cases h : x ≥ 97
  · rw [if_pos h, decide_eq_true h]; rfl
  · rw [if_neg h, decide_eq_false h]; rfl
theorem sdigb (x : Int) : spec_l3Digit.f x = some (digb x) := by
  unfold spec_l3Digit.f digb
  by_cases h : x ≥ 48
  · rw [if_pos h, decide_eq_true h]; rfl
  · rw [if_neg h, decide_eq_false h]; rfl
theorem s_name_l (s : ByteArray) (hs : s.size ≤ 140737488351232) : ∀ (l : List Int) (i : Nat), (bytesOf s).drop i = l → i ≤ s.size →
    Ev (fun k => spec_l3End.l0 k s (i : Int)) (((i + (l.takeWhile nameb).length : Nat) : Int), 1) := by
  intro l
  induction l with
  | nil =>
    intro i hl hi
    have hn : s.size = i := by
      have := List.drop_eq_nil_iff.1 hl
      rw [bytesOf_length] at this; omega
    refine Ev.step (fun k => by rw [spec_l3End.l0]) (ev_const fun k => ?_)
    rw [if_neg (by omega)]; rfl
  | cons x l ih =>
    intro i hl hi
    have hlt : i < s.size := lt_of_drop hl
    obtain ⟨hx, hl'⟩ := drop_split hl hlt
    have hb := bt_nat s i
    rw [hx] at hb
    have h1 := ih (i + 1) hl' (by omega)
    refine Ev.step (fun k => by rw [spec_l3End.l0]) ?_
    simp only [hb, w64s (show i + 1 < 9223372036854775808 by omega), show (i : Int) < (s.size : Int) by omega, show (0 : Int) ≤ (i : Int) by omega, if_true, sletb, sdigb, Option.bind_some]
    rw [List.takeWhile_cons]
    have hyes : nameb x = true → Ev (fun k => spec_l3End.l0 k s ((i + 1 : Nat) : Int)) (((i + (if nameb x = true then x :: l.takeWhile nameb else []).length : Nat) : Int), 1) := by
      intro h
      rw [if_pos h, List.length_cons, show i + ((l.takeWhile nameb).length + 1) = i + 1 + (l.takeWhile nameb).length by omega]
      exact h1
    cases h2 : letb x
    · simp only [Bool.false_eq_true, if_false]
      cases h3 : digb x
      · simp only [Bool.false_eq_true, if_false]
        by_cases h4 : x = 95
        · simp only [if_pos h4]; exact hyes (by unfold nameb; simp [h4])
        · simp only [if_neg h4]
          by_cases h5 : x = 46
          · simp only [if_pos h5]; exact hyes (by unfold nameb; simp [h5])
          · simp only [if_neg h5]
            have : nameb x = false := by unfold nameb; simp [h2, h3, h4, h5]
            rw [this]
            exact Ev.now _
      · simp only [if_true]; exact hyes (by unfold nameb; simp [h3])
    · simp only [if_true]; exact hyes (by unfold nameb; simp [h2])
theorem s_num_l (s : ByteArray) (hs : s.size ≤ 140737488351232) : ∀ (l : List Int) (i : Nat), (bytesOf s).drop i = l → i ≤ s.size →
    Ev (fun k => spec_l3End.l1 k s (i : Int)) (((i + (l.takeWhile numb).length : Nat) : Int), 2) := by
  intro l
  induction l with
  | nil =>
    intro i hl hi
    have hn : s.size = i := by
      have := List.drop_eq_nil_iff.1 hl
      rw [bytesOf_length] at this; omega
    refine Ev.step (fun k => by rw [spec_l3End.l1]) (ev_const fun k => ?_)
    rw [if_neg (by omega)]; rfl
  | cons x l ih =>
    intro i hl hi
    have hlt : i < s.size := lt_of_drop hl
    obtain ⟨hx, hl'⟩ := drop_split hl hlt
    have hb := bt_nat s i
    rw [hx] at hb
    have h1 := ih (i + 1) hl' (by omega)
    refine Ev.step (fun k => by rw [spec_l3End.l1]) ?_
    simp only [hb, w64s (show i + 1 < 9223372036854775808 by omega), show (i : Int) < (s.size : Int) by omega, show (0 : Int) ≤ (i : Int) by omega, if_true, sdigb, Option.bind_some]
    rw [List.takeWhile_cons]
    have hyes : numb x = true → Ev (fun k => spec_l3End.l1 k s ((i + 1 : Nat) : Int)) (((i + (if numb x = true then x :: l.takeWhile numb else []).length : Nat) : Int), 2) := by
      intro h
      rw [if_pos h, List.length_cons, show i + ((l.takeWhile numb).length + 1) = i + 1 + (l.takeWhile numb).length by omega]
      exact h1
    cases h3 : digb x
    · simp only [Bool.false_eq_true, if_false]
      by_cases h5 : x = 46
      · simp only [if_pos h5]; exact hyes (by unfold numb; simp [h5])
      · simp only [if_neg h5]
        have : numb x = false := by unfold numb; simp [h3, h5]
        rw [this]
        exact Ev.now _
    · simp only [if_true]; exact hyes (by unfold numb; simp [h3])
theorem s_text_l (s : ByteArray) (hs : s.size ≤ 140737488351232) (at_ : Int) : ∀ (n : Nat) (l : List Int) (i : Nat), l.length ≤ n → (bytesOf s).drop i = l → i ≤ s.size + 1 →
    Ev (fun k => spec_l3End.l2 k s at_ (i : Int)) (match qend l with | none => (at_, 0) | some m => (((i + m : Nat) : Int), 3)) := by
  intro n
  induction n with
  | zero =>
    intro l i hn hl hi
    have : l = [] := List.length_eq_zero_iff.1 (by omega)
    subst this
    have hz := List.drop_eq_nil_iff.1 hl
    rw [bytesOf_length] at hz
    refine Ev.step (fun k => by rw [spec_l3End.l2]) ?_
    simp only [if_neg (show ¬ (i : Int) < (s.size : Int) by omega)]
    refine Ev.step (fun k => by rw [spec_l3End.j3]) ?_
    simp only [Bool.false_eq_true, if_false, if_pos (show (i : Int) ≥ (s.size : Int) by omega), qend]
    exact Ev.now _
  | succ n ih =>
    intro l i hn hl hi
    match l, hn, hl with
    | [], hn, hl => exact ih [] i (by simp) hl hi
    | x :: l, hn, hl =>
      have hlt : i < s.size := lt_of_drop hl
      obtain ⟨hx, hl'⟩ := drop_split hl hlt
      have hb := bt_nat s i
      rw [hx] at hb
      refine Ev.step (fun k => by rw [spec_l3End.l2]) ?_
      simp only [hb, show (i : Int) < (s.size : Int) by omega, show (0 : Int) ≤ (i : Int) by omega, if_true]
      refine Ev.step (fun k => by rw [spec_l3End.j3]) ?_
      by_cases h34 : x = 34
      · subst h34
        have hq : qend (34 :: l) = some 1 := by cases l <;> simp [qend]
        simp only [bne_self_eq_false, Bool.false_eq_true, if_false, if_neg (show ¬ (i : Int) ≥ (s.size : Int) by omega), hq, w64s (show i + 1 < 9223372036854775808 by omega)]
        exact Ev.now _
      · have hne : (x != 34) = true := by simpa using h34
        simp only [hne, if_true, show (i : Int) < (s.size : Int) by omega, show (0 : Int) ≤ (i : Int) by omega, hb, w64s (show i + 1 < 9223372036854775808 by omega), w64s (show i + 1 + 1 < 9223372036854775808 by omega)]
        by_cases h92 : x = 92
        · simp only [if_pos h92]
          have h1 := ih (l.drop 1) (i + 1 + 1) (by simp only [List.length_cons] at hn; rw [List.length_drop]; omega) (by rw [← hl', List.drop_drop]) (by omega)
          have hq : qend (x :: l) = (qend (l.drop 1)).map (· + 2) := by
            cases l with
            | nil => simp [qend, h34]
            | cons y l => simp [qend, h34, h92]
          rw [hq]
          cases hm : qend (l.drop 1) with
          | none => rw [hm] at h1; exact h1
          | some m =>
            rw [hm] at h1
            simp only [Option.map_some] at h1 ⊢
            rw [show i + (m + 2) = i + 1 + 1 + m by omega]; exact h1
        · simp only [if_neg h92]
          have h1 := ih l (i + 1) (by simp only [List.length_cons] at hn; omega) hl' (by omega)
          have hq : qend (x :: l) = (qend l).map (· + 1) := by
            cases l with
            | nil => simp [qend, h34]
            | cons y l => simp [qend, h34, h92]
          rw [hq]
          cases hm : qend l with
          | none => rw [hm] at h1; exact h1
          | some m =>
            rw [hm] at h1
            simp only [Option.map_some] at h1 ⊢
            rw [show i + (m + 1) = i + 1 + m by omega]; exact h1
theorem s_sign (s : ByteArray) (hs : s.size ≤ 140737488351232) (i : Nat) (x : Int) (l : List Int) (hl : (bytesOf s).drop i = x :: l) :
    Ev (fun k => spec_l3Sign.f k s (i : Int)) (((sgnLen x l).getD 0 : Nat) : Int) := by
  have hlt := lt_of_drop hl
  obtain ⟨hx, hl'⟩ := drop_split hl hlt
  have hb := bt_nat s i
  rw [hx] at hb
  -- the last step: the signs of one byte
  have hone : sg2 x l = false → Ev (fun k => (spec_l1Has.f k (⟨#[33, 45, 42, 47, 37, 43, 60, 62, 63, 58, 40, 41, 91, 93, 44]⟩ : ByteArray) (bt s (i : Int))).bind fun t => if t = true then some (1 : Int) else some 0) (((sgnLen x l).getD 0 : Nat) : Int) := by
    intro h2
    rw [hb]
    refine ev_bind (spec_has _ (by decide) x) ?_
    have e : (bytesOf (⟨#[33, 45, 42, 47, 37, 43, 60, 62, 63, 58, 40, 41, 91, 93, 44]⟩ : ByteArray)).contains x = sgn1 x := rfl
    rw [e]
    unfold sgnLen
    simp only [h2, Bool.false_eq_true, if_false]
    cases sgn1 x
    · simp only [Bool.false_eq_true, if_false]; exact Ev.now _
    · simp only [if_true]; exact Ev.now _
  unfold spec_l3Sign.f
  -- the six signs of two bytes
  by_cases h1 : i + 1 < s.size
  · obtain ⟨y, l2, rfl⟩ : ∃ y l2, l = y :: l2 := by
      cases l with
      | nil =>
        have := List.drop_eq_nil_iff.1 hl'
        rw [bytesOf_length] at this; omega
      | cons y l2 => exact ⟨y, l2, rfl⟩
    obtain ⟨hy, _⟩ := drop_split hl' h1
    have hc : bytesOf (s.extract i (i + 2)) = [x, y] := by rw [cut_two s i h1, hx, hy]
    have hw1 : wrap64 ((i : Int) + 1) = ((i + 1 : Nat) : Int) := w64s (by omega)
    have hw2 : wrap64 ((i : Int) + 2) = ((i + 2 : Nat) : Int) := by rw [w64 (by omega) (by omega)]; rfl
    have hstep : ∀ (ws : List ByteArray) (j : Nat) (a b : UInt8), ws[j]? = some (⟨#[a, b]⟩ : ByteArray) → j < 100 →
        (∀ (hn : ¬ (x = (a.toNat : Int) ∧ y = (b.toNat : Int))), Ev (fun k => spec_l3Sign.l0 k s (i : Int) ws ((j + 1 : Nat) : Int)) (((sgnLen x (y :: l2)).getD 0 : Nat) : Int)) →
        (x = (a.toNat : Int) ∧ y = (b.toNat : Int) → sgn2 x y = true) → Ev (fun k => spec_l3Sign.l0 k s (i : Int) ws (j : Int)) (((sgnLen x (y :: l2)).getD 0 : Nat) : Int) := by
      intro ws j a b hj hj100 hno hyes
      have hjl : j < ws.length := (List.getElem?_eq_some_iff.1 hj).1
      have hr : rdOf ByteArray.empty ws (j : Int) = (⟨#[a, b]⟩ : ByteArray) := by
        unfold rdOf; rw [List.getD_eq_getElem?_getD, Int.toNat_natCast, hj]; rfl
      have ht : (⟨#[a, b]⟩ : ByteArray).toList = [a, b] := by rw [toList_data]
      refine Ev.step (fun k => by rw [spec_l3Sign.l0]) ?_
      simp only [if_pos (show (j : Int) < (ws.length : Int) by omega), hw1, hw2, if_pos (show ((i + 1 : Nat) : Int) < (s.size : Int) by omega), if_pos (show (0 : Int) ≤ (i : Int) by omega), if_pos (show (i : Int) ≤ ((i + 2 : Nat) : Int) by omega),
        if_pos (show ((i + 2 : Nat) : Int) ≤ (s.size : Int) by omega), if_pos (show (0 : Int) ≤ (j : Int) by omega), hr, ht, Int.toNat_natCast, toList_two _ a b x y hc, w64s (show j + 1 < 9223372036854775808 by omega)]
      by_cases h : x = (a.toNat : Int) ∧ y = (b.toNat : Int)
      · simp only [if_pos h]
        unfold sgnLen sg2
        simp only [hyes h, if_true]
        exact Ev.now _
      · simp only [if_neg h]
        exact hno h
    refine hstep _ 0 60 61 rfl (by omega) (fun n1 => ?_) (fun e => by obtain ⟨rfl, rfl⟩ := e; rfl)
    refine hstep _ 1 62 61 rfl (by omega) (fun n2 => ?_) (fun e => by obtain ⟨rfl, rfl⟩ := e; rfl)
    refine hstep _ 2 61 61 rfl (by omega) (fun n3 => ?_) (fun e => by obtain ⟨rfl, rfl⟩ := e; rfl)
    refine hstep _ 3 33 61 rfl (by omega) (fun n4 => ?_) (fun e => by obtain ⟨rfl, rfl⟩ := e; rfl)
    refine hstep _ 4 38 38 rfl (by omega) (fun n5 => ?_) (fun e => by obtain ⟨rfl, rfl⟩ := e; rfl)
    refine hstep _ 5 124 124 rfl (by omega) (fun n6 => ?_) (fun e => by obtain ⟨rfl, rfl⟩ := e; rfl)
    refine Ev.step (fun k => by rw [spec_l3Sign.l0]) ?_
    simp only [List.length_cons, List.length_nil, if_neg (show ¬ ((5 + 1 : Nat) : Int) < ((0 + 1 + 1 + 1 + 1 + 1 + 1 : Nat) : Int) by omega), if_pos (show (0 : Int) ≤ (i : Int) by omega), if_pos (show (i : Int) < (s.size : Int) by omega)]
    refine hone ?_
    unfold sg2 sgn2
    simp only [Bool.or_eq_false_iff, Bool.and_eq_false_iff, beq_eq_false_iff_ne]
    have m1 : ¬ (x = 60 ∧ y = 61) := n1
    have m2 : ¬ (x = 62 ∧ y = 61) := n2
    have m3 : ¬ (x = 61 ∧ y = 61) := n3
    have m4 : ¬ (x = 33 ∧ y = 61) := n4
    have m5 : ¬ (x = 38 ∧ y = 38) := n5
    have m6 : ¬ (x = 124 ∧ y = 124) := n6
    omega
  · have hl0 : l = [] := by
      rw [← hl', List.drop_eq_nil_iff, bytesOf_length]; omega
    subst hl0
    have hw1 : wrap64 ((i : Int) + 1) = ((i + 1 : Nat) : Int) := w64s (by omega)
    have hstep : ∀ (ws : List ByteArray) (j : Nat), j < ws.length → j < 100 → Ev (fun k => spec_l3Sign.l0 k s (i : Int) ws ((j + 1 : Nat) : Int)) (((sgnLen x []).getD 0 : Nat) : Int) → Ev (fun k => spec_l3Sign.l0 k s (i : Int) ws (j : Int)) (((sgnLen x []).getD 0 : Nat) : Int) := by
      intro ws j hj hj100 h
      refine Ev.step (fun k => by rw [spec_l3Sign.l0]) ?_
      simp only [if_pos (show (j : Int) < (ws.length : Int) by omega), hw1, if_neg (show ¬ ((i + 1 : Nat) : Int) < (s.size : Int) by omega), w64s (show j + 1 < 9223372036854775808 by omega)]
      exact h
    refine hstep _ 0 (by simp) (by omega) ?_
    refine hstep _ 1 (by simp) (by omega) ?_
    refine hstep _ 2 (by simp) (by omega) ?_
    refine hstep _ 3 (by simp) (by omega) ?_
    refine hstep _ 4 (by simp) (by omega) ?_
    refine hstep _ 5 (by simp) (by omega) ?_
    refine Ev.step (fun k => by rw [spec_l3Sign.l0]) ?_
    simp only [List.length_cons, List.length_nil, if_neg (show ¬ ((5 + 1 : Nat) : Int) < ((0 + 1 + 1 + 1 + 1 + 1 + 1 : Nat) : Int) by omega), if_pos (show (0 : Int) ≤ (i : Int) by omega), if_pos (show (i : Int) < (s.size : Int) by omega)]
    exact hone rfl
theorem s_end (s : ByteArray) (hs : s.size ≤ 140737488351232) (i : Nat) (x : Int) (l : List Int) (hl : (bytesOf s).drop i = x :: l) :
    Ev (fun k => spec_l3End.f k s (i : Int)) (match tok (x :: l) with | none => ((i : Int), 0) | some (k, n) => (((i + n : Nat) : Int), k)) := by
  have hlt := lt_of_drop hl
  obtain ⟨hx, hl'⟩ := drop_split hl hlt
  have hb := bt_nat s i
  rw [hx] at hb
  unfold spec_l3End.f
  simp only [if_pos (show (0 : Int) ≤ (i : Int) by omega), if_pos (show (i : Int) < (s.size : Int) by omega), hb, sletb, sdigb, Option.bind_some]
  rw [tok]
  cases h1 : letb x
  · simp only [Bool.false_eq_true, if_false]
    cases h2 : digb x
    · simp only [Bool.false_eq_true, if_false]
      by_cases h3 : x = 34
      · simp only [if_pos h3, w64s (show i + 1 < 9223372036854775808 by omega)]
        have := s_text_l s hs (i : Int) l.length l (i + 1) (Nat.le_refl _) hl' (by omega)
        cases hq : qend l with
        | none => rw [hq] at this; exact this
        | some m =>
          rw [hq] at this
          simp only [Option.map_some] at this ⊢
          rw [show i + (1 + m) = i + 1 + m by omega]; exact this
      · simp only [if_neg h3]
        refine ev_bind (s_sign s hs i x l hl) ?_
        cases hq : sgnLen x l with
        | none => simp only [Option.getD_none, Option.map_none]; exact Ev.now _
        | some m =>
          have hm : m = 1 ∨ m = 2 := by
            unfold sgnLen at hq
            split at hq
            · have := Option.some.inj hq; omega
            · split at hq
              · have := Option.some.inj hq; omega
              · cases hq
          simp only [Option.getD_some, Option.map_some, if_neg (show ¬ (m : Int) = 0 by omega)]
          rw [w64 (by omega) (by omega)]
          exact Ev.now _
    · simp only [if_true]
      have h := s_num_l s hs (x :: l) i hl (by omega)
      rw [List.takeWhile_cons, if_pos (show numb x = true by unfold numb; simp [h2]), List.length_cons, show (l.takeWhile numb).length + 1 = 1 + (l.takeWhile numb).length by omega] at h
      exact h
  · simp only [if_true]
    have h := s_name_l s hs (x :: l) i hl (by omega)
    rw [List.takeWhile_cons, if_pos (show nameb x = true by unfold nameb; simp [h1]), List.length_cons, show (l.takeWhile nameb).length + 1 = 1 + (l.takeWhile nameb).length by omega] at h
    exact h
theorem s_toks_l (s : ByteArray) (hs : s.size ≤ 1048576) : ∀ (n : Nat) (M : List Int) (i : Nat) (o : List S33), M.length ≤ n → (bytesOf s).drop i = M → i ≤ s.size → o.length ≤ i →
    Ev (fun k => spec_TokensOf.l0 k s o (i : Int)) (tokR (toks n M i) o) := by
  intro n
  induction n with
  | zero =>
    intro M i o hn hl hi ho
    have : M = [] := List.length_eq_zero_iff.1 (by omega)
    subst this
    have hz := List.drop_eq_nil_iff.1 hl
    rw [bytesOf_length] at hz
    refine Ev.step (fun k => by rw [spec_TokensOf.l0]) ?_
    simp only [if_neg (show ¬ (i : Int) < (s.size : Int) by omega), toks, tokR, List.map_nil, List.append_nil]
    exact Ev.now _
  | succ n ih =>
    intro M i o hn hl hi ho
    match M, hn, hl with
    | [], hn, hl =>
      have hz := List.drop_eq_nil_iff.1 hl
      rw [bytesOf_length] at hz
      refine Ev.step (fun k => by rw [spec_TokensOf.l0]) ?_
      simp only [if_neg (show ¬ (i : Int) < (s.size : Int) by omega), toks, tokR, List.map_nil, List.append_nil]
      exact Ev.now _
    | x :: l, hn, hl =>
      have hlt := lt_of_drop hl
      obtain ⟨hx, hl'⟩ := drop_split hl hlt
      have hb := bt_nat s i
      rw [hx] at hb
      have hML : (x :: l).length = s.size - i := by rw [← hl, List.length_drop, bytesOf_length]
      refine Ev.step (fun k => by rw [spec_TokensOf.l0]) ?_
      simp only [if_pos (show (i : Int) < (s.size : Int) by omega), if_pos (show (0 : Int) ≤ (i : Int) by omega), hb]
      rw [toks]
      by_cases h32 : x = 32
      · simp only [if_pos h32, w64s (show i + 1 < 9223372036854775808 by omega)]
        exact ih l (i + 1) o (by simp only [List.length_cons] at hn; omega) hl' (by omega) (by omega)
      · simp only [if_neg h32]
        refine ev_bind (s_end s (by omega) i x l hl) ?_
        cases ht : tok (x :: l) with
        | none => simp only [if_true, tokR]; exact Ev.now _
        | some p =>
          obtain ⟨k, m⟩ := p
          have hk := tok_kind ht
          have hm := tok_le _ k m ht
          simp only [if_neg (show ¬ k = 0 by omega), if_pos (show o.length < 5864062014805 by omega)]
          have h := ih ((x :: l).drop m) (i + m) (o ++ [tk (k, i, i + m)]) (by rw [List.length_drop]; omega) (by rw [← hl, List.drop_drop]) (by omega) (by simp; omega)
          have e : tokR (toks n ((x :: l).drop m) (i + m)) (o ++ [tk (k, i, i + m)]) = tokR ((toks n ((x :: l).drop m) (i + m)).map fun ts => (k, i, i + m) :: ts) o := by
            cases toks n ((x :: l).drop m) (i + m) with
            | none => rfl
            | some ts => simp [tokR]
          rw [e] at h
          exact h
theorem spec_toks (s : ByteArray) (hs : s.size ≤ 1048576) : Ev (fun k => spec_TokensOf.f k s) (tokR (toksOf (bytesOf s)) []) := by
  unfold spec_TokensOf.f toksOf
  simp only [Option.bind_some]
  refine ev_bind (spec_tv s (by omega)) ?_
  have hno : Ev (fun k => spec_TokensOf.j0 k s [] true) (([] : List S33), false) := by
    refine Ev.step (fun k => by rw [spec_TokensOf.j0]) ?_
    simp only [if_true]; exact Ev.now _
  by_cases ht : tv (bytesOf s) = true
  · simp only [ht, if_true]
    refine ev_bind (spec_has s (by omega) 10) ?_
    cases hc : (bytesOf s).contains 10
    · refine Ev.step (fun k => by rw [spec_TokensOf.j0]) ?_
      simp only [Bool.false_eq_true, if_false, and_self, if_true]
      exact s_toks_l s hs _ (bytesOf s) 0 [] (Nat.le_refl _) rfl (by omega) (by simp)
    · simp only [Bool.true_eq_false, and_false, if_false]
      exact hno
  · simp only [ht, false_and, if_false]
    exact hno

theorem in_eq (x : Int) : impl_in.f x 32 126 = some (decide (32 ≤ x) && decide (x ≤ 126)) := by
  unfold impl_in.f
  by_cases h : x ≥ 32
  · rw [if_pos h, decide_eq_true h]; rfl
  · rw [if_neg h, decide_eq_false h]; rfl
theorem impl_tv_l (s : ByteArray) (hs : s.size ≤ 140737488351232) : ∀ (l : List Int) (i : Nat), (bytesOf s).drop i = l → i ≤ s.size →
    Ev (fun k => impl_TextValid.l0 k s (i : Int)) (l.all okb && decide ((bytesOf s).length ≤ 20000)) := by
  intro l
  induction l with
  | nil =>
    intro i hl hi
    have hn : s.size = i := by
      have := List.drop_eq_nil_iff.1 hl
      rw [bytesOf_length] at this; omega
    refine Ev.step (fun k => by rw [impl_TextValid.l0]) (ev_const fun k => ?_)
    rw [if_neg (by omega), bytesOf_length]; simp; omega
  | cons x l ih =>
    intro i hl hi
    have hlt : i < s.size := by
      rcases Nat.lt_or_ge i s.size with h | h
      · exact h
      · rw [List.drop_eq_nil_iff.2 (by rw [bytesOf_length]; exact h)] at hl; cases hl
    have hd := drop_cons (bytesOf s) i (by rw [bytesOf_length]; exact hlt)
    rw [hd] at hl
    obtain ⟨hx, hl'⟩ := List.cons.inj hl
    have hr := getD_range s i
    have hb := bt_nat s i
    rw [hx] at hb hr
    have h1 := ih (i + 1) hl' (by omega)
    refine Ev.step (fun k => by rw [impl_TextValid.l0]) ?_
    simp only [hb, w64s (show i + 1 < 9223372036854775808 by omega), w64 (n := x) (by omega) (by omega), in_eq, Option.bind_some, show (i : Int) < (s.size : Int) by omega, show (0 : Int) ≤ (i : Int) by omega, if_true]
    by_cases h10 : x = 10
    · subst h10
      simp only [if_true, List.all_cons, okb_ten, Bool.true_and]; exact h1
    · simp only [h10, if_false, List.all_cons, okb_in x h10]
      cases hq : (decide (32 ≤ x) && decide (x ≤ 126))
      · simp; exact Ev.now _
      · simp; simpa using h1
theorem impl_tv (s : ByteArray) (hs : s.size ≤ 140737488351232) : Ev (fun k => impl_TextValid.f k s) (tv (bytesOf s)) := by
  have := impl_tv_l s hs (bytesOf s) 0 rfl (by omega)
  exact this

theorem index_mem (c : UInt8) : ∀ l : List UInt8, (0 ≤ Lib.indexByte l c) ↔ c ∈ l
  | [] => by simp [Lib.indexByte]
  | b :: l => by
    have ih := index_mem c l
    have hg := Lib.indexByte_ge l c
    rw [Lib.indexByte]
    by_cases h : (b == c) = true
    · rw [if_pos h]
      have := eq_of_beq h
      subst this
      simp
    · rw [if_neg h]
      have hne : ¬ c = b := fun e => h (by rw [e]; exact beq_self_eq_true _)
      by_cases h2 : (Lib.indexByte l c == -1) = true
      · rw [if_pos h2]
        have e := eq_of_beq h2
        rw [e] at ih
        simp only [List.mem_cons, hne, false_or]
        constructor
        · intro h; omega
        · intro h; have := ih.2 h; omega
      · rw [if_neg h2]
        have e : Lib.indexByte l c ≠ -1 := fun e => h2 (by rw [e]; rfl)
        simp only [List.mem_cons, hne, false_or]
        constructor
        · intro h; exact ih.1 (by omega)
        · intro h; have := ih.2 h; omega
theorem mem_bytes (s : ByteArray) (c : UInt8) : c ∈ s.data.toList ↔ (bytesOf s).contains (c.toNat : Int) = true := by
  unfold bytesOf
  rw [List.contains_iff_mem]
  constructor
  · intro h; exact List.mem_map.2 ⟨c, h, rfl⟩
  · intro h
    obtain ⟨b, hb, e⟩ := List.mem_map.1 h
    have : b = c := UInt8.toNat_inj.1 (by omega)
    rw [← this]; exact hb

theorem hasLineEnd_eq (s : ByteArray) : impl_hasLineEnd.f s = some ((bytesOf s).contains 10) := by
  unfold impl_hasLineEnd.f strings_Contains.f
  have h1 : (⟨#[10]⟩ : ByteArray).size = 1 := rfl
  rw [if_pos h1]
  simp only [Option.bind_some]
  congr 1
  rw [Bool.eq_iff_iff, decide_eq_true_iff]
  show 0 ≤ Lib.indexByte s.data.toList 10 ↔ _
  rw [index_mem, mem_bytes]; rfl

theorem ismall (x : Int) (h : 0 ≤ x ∧ x ≤ 255) : impl_isSmall.f x = some (letb x) := by
  unfold impl_isSmall.f impl_in.f letb
  rw [w64 (by omega) (by omega)]
  by_cases h1 : x ≥ 97
  · rw [if_pos h1, decide_eq_true h1]; rfl
  · rw [if_neg h1, decide_eq_false h1]; rfl
theorem idigit (x : Int) (h : 0 ≤ x ∧ x ≤ 255) : impl_isDigit.f x = some (digb x) := by
  unfold impl_isDigit.f impl_in.f digb
  rw [w64 (by omega) (by omega)]
  by_cases h1 : x ≥ 48
  · rw [if_pos h1, decide_eq_true h1]; rfl
  · rw [if_neg h1, decide_eq_false h1]; rfl
theorem inameb (x : Int) (h : 0 ≤ x ∧ x ≤ 255) : impl_nameByte.f x = some (nameb x) := by
  unfold impl_nameByte.f nameb
  rw [ismall x h, idigit x h]
  simp only [Option.bind_some]
  cases letb x
  · simp only [Bool.false_eq_true, if_false, Bool.false_or]
    cases digb x
    · simp only [Bool.false_eq_true, if_false, Bool.false_or]
      by_cases h1 : x = 95
      · simp [h1]
      · simp [h1]
    · simp
  · simp
theorem i_text_l (s : ByteArray) (hs : s.size ≤ 140737488351232) : ∀ (n : Nat) (l : List Int) (i : Nat), l.length ≤ n → (bytesOf s).drop i = l → i ≤ s.size + 1 →
    Ev (fun k => impl_textEnd.l0 k s (i : Int)) (match qend l with | none => (-1) | some m => ((i + m : Nat) : Int)) := by
  intro n
  induction n with
  | zero =>
    intro l i hn hl hi
    have : l = [] := List.length_eq_zero_iff.1 (by omega)
    subst this
    have hz := List.drop_eq_nil_iff.1 hl
    rw [bytesOf_length] at hz
    refine Ev.step (fun k => by rw [impl_textEnd.l0]) ?_
    simp only [if_neg (show ¬ (i : Int) < (s.size : Int) by omega), qend]
    exact Ev.now _
  | succ n ih =>
    intro l i hn hl hi
    match l, hn, hl with
    | [], hn, hl => exact ih [] i (by simp) hl hi
    | x :: l, hn, hl =>
      have hlt : i < s.size := lt_of_drop hl
      obtain ⟨hx, hl'⟩ := drop_split hl hlt
      have hb := bt_nat s i
      rw [hx] at hb
      refine Ev.step (fun k => by rw [impl_textEnd.l0]) ?_
      simp only [hb, show (i : Int) < (s.size : Int) by omega, show (0 : Int) ≤ (i : Int) by omega, if_true, w64s (show i + 1 < 9223372036854775808 by omega), w64s (show i + 1 + 1 < 9223372036854775808 by omega)]
      by_cases h92 : x = 92
      · simp only [if_pos h92]
        have h34 : ¬ x = 34 := by omega
        have h1 := ih (l.drop 1) (i + 1 + 1) (by simp only [List.length_cons] at hn; rw [List.length_drop]; omega) (by rw [← hl', List.drop_drop]) (by omega)
        have hq : qend (x :: l) = (qend (l.drop 1)).map (· + 2) := by
          cases l with
          | nil => simp [qend, h34]
          | cons y l => simp [qend, h34, h92]
        rw [hq]
        cases hm : qend (l.drop 1) with
        | none => rw [hm] at h1; exact h1
        | some m =>
          rw [hm] at h1
          simp only [Option.map_some] at h1 ⊢
          rw [show i + (m + 2) = i + 1 + 1 + m by omega]; exact h1
      · simp only [if_neg h92]
        by_cases h34 : x = 34
        · simp only [if_pos h34]
          have hq : qend (x :: l) = some 1 := by subst h34; cases l <;> simp [qend]
          rw [hq]
          exact Ev.now _
        · simp only [if_neg h34]
          have h1 := ih l (i + 1) (by simp only [List.length_cons] at hn; omega) hl' (by omega)
          have hq : qend (x :: l) = (qend l).map (· + 1) := by
            cases l with
            | nil => simp [qend, h34]
            | cons y l => simp [qend, h34, h92]
          rw [hq]
          cases hm : qend l with
          | none => rw [hm] at h1; exact h1
          | some m =>
            rw [hm] at h1
            simp only [Option.map_some] at h1 ⊢
            rw [show i + (m + 1) = i + 1 + m by omega]; exact h1
theorem i_index (x : Int) (h : 0 ≤ x ∧ x ≤ 255) : ∃ r, strings_IndexByte.f (⟨#[33, 45, 42, 47, 37, 43, 60, 62, 63, 58, 40, 41, 91, 93, 44]⟩ : ByteArray) x = some r ∧ ((r ≥ 0) ↔ sgn1 x = true) := by
  refine ⟨_, rfl, ?_⟩
  have e : x.toNat.toUInt8.toNat = x.toNat := by
    show x.toNat % 256 = x.toNat
    exact Nat.mod_eq_of_lt (by omega)
  show 0 ≤ Lib.indexByte (⟨#[33, 45, 42, 47, 37, 43, 60, 62, 63, 58, 40, 41, 91, 93, 44]⟩ : ByteArray).data.toList x.toNat.toUInt8 ↔ _
  rw [index_mem, mem_bytes, e]
  have e2 : (x.toNat : Int) = x := by omega
  rw [e2]; exact Iff.rfl
theorem i_sign (s : ByteArray) (hs : s.size ≤ 140737488351232) (i : Nat) (x : Int) (l : List Int) (hl : (bytesOf s).drop i = x :: l) :
    Ev (fun k => impl_signEnd.f k s (i : Int)) (match sgnLen x l with | none => (-1) | some m => ((i + m : Nat) : Int)) := by
  have hlt := lt_of_drop hl
  obtain ⟨hx, hl'⟩ := drop_split hl hlt
  have hb := bt_nat s i
  have hr := getD_range s i
  rw [hx] at hb hr
  have hw2 : wrap64 ((i : Int) + 2) = ((i + 2 : Nat) : Int) := by rw [w64 (by omega) (by omega)]; rfl
  have hw1 : wrap64 ((i : Int) + 1) = ((i + 1 : Nat) : Int) := w64s (by omega)
  have hcore : sg2 x l = false → Ev (fun _ => if (0 : Int) ≤ (i : Int) then (if (i : Int) < (s.size : Int) then ((strings_IndexByte.f (⟨#[33, 45, 42, 47, 37, 43, 60, 62, 63, 58, 40, 41, 91, 93, 44]⟩ : ByteArray) (bt s (i : Int))).bind fun t => (if t ≥ 0 then (some (wrap64 ((i : Int) + 1))) else (some (-1)))) else none) else none)
      (match sgnLen x l with | none => (-1) | some m => ((i + m : Nat) : Int)) := by
    intro h2
    obtain ⟨r, hi, hiff⟩ := i_index x hr
    simp only [if_pos (show (0 : Int) ≤ (i : Int) by omega), if_pos (show (i : Int) < (s.size : Int) by omega), hb, hi, Option.bind_some, hw1]
    unfold sgnLen
    simp only [h2, Bool.false_eq_true, if_false]
    by_cases h1 : r ≥ 0
    · simp only [if_pos h1, hiff.1 h1, if_true]; exact Ev.now _
    · have : sgn1 x = false := by rw [Bool.eq_false_iff]; exact fun e => h1 (hiff.2 e)
      simp only [if_neg h1, this, Bool.false_eq_true, if_false]; exact Ev.now _
  have hone : sg2 x l = false → Ev (fun k => impl_signEnd.j0 k s (i : Int) false) (match sgnLen x l with | none => (-1) | some m => ((i + m : Nat) : Int)) := by
    intro h2
    refine Ev.step (fun k => by rw [impl_signEnd.j0]) ?_
    simp only [Bool.false_eq_true, if_false]
    exact hcore h2
  unfold impl_signEnd.f
  rw [hw2]
  by_cases h1 : i + 1 < s.size
  · obtain ⟨y, l2, rfl⟩ : ∃ y l2, l = y :: l2 := by
      cases l with
      | nil =>
        have := List.drop_eq_nil_iff.1 hl'
        rw [bytesOf_length] at this; omega
      | cons y l2 => exact ⟨y, l2, rfl⟩
    obtain ⟨hy, _⟩ := drop_split hl' h1
    have hc : bytesOf (s.extract i (i + 2)) = [x, y] := by rw [cut_two s i h1, hx, hy]
    have hyes : ∀ b : Bool, b = true → sgn2 x y = true → Ev (fun k => impl_signEnd.j0 k s (i : Int) b) (match sgnLen x (y :: l2) with | none => (-1) | some m => ((i + m : Nat) : Int)) := by
      intro b hb' h2
      subst hb'
      refine Ev.step (fun k => by rw [impl_signEnd.j0]) ?_
      simp only [if_true, hw2]
      unfold sgnLen sg2
      simp only [h2, if_true]
      exact Ev.now _
    simp only [if_pos (show ((i + 2 : Nat) : Int) ≤ (s.size : Int) by omega), if_pos (show (0 : Int) ≤ (i : Int) by omega), if_pos (show (i : Int) ≤ ((i + 2 : Nat) : Int) by omega), Int.toNat_natCast, toList_two _ _ _ x y hc]
    by_cases n1 : x = 60 ∧ y = 61
    · simp only [if_pos (show x = ((60 : UInt8).toNat : Int) ∧ y = ((61 : UInt8).toNat : Int) from n1)]
      exact hyes _ (by rw [beq_iff_eq, toList_two _ _ _ x y hc]; exact n1) (by obtain ⟨rfl, rfl⟩ := n1; rfl)
    simp only [if_neg (show ¬ (x = ((60 : UInt8).toNat : Int) ∧ y = ((61 : UInt8).toNat : Int)) from n1)]
    by_cases n2 : x = 62 ∧ y = 61
    · simp only [if_pos (show x = ((62 : UInt8).toNat : Int) ∧ y = ((61 : UInt8).toNat : Int) from n2)]
      exact hyes _ (by rw [beq_iff_eq, toList_two _ _ _ x y hc]; exact n2) (by obtain ⟨rfl, rfl⟩ := n2; rfl)
    simp only [if_neg (show ¬ (x = ((62 : UInt8).toNat : Int) ∧ y = ((61 : UInt8).toNat : Int)) from n2)]
    by_cases n3 : x = 61 ∧ y = 61
    · simp only [if_pos (show x = ((61 : UInt8).toNat : Int) ∧ y = ((61 : UInt8).toNat : Int) from n3)]
      exact hyes _ (by rw [beq_iff_eq, toList_two _ _ _ x y hc]; exact n3) (by obtain ⟨rfl, rfl⟩ := n3; rfl)
    simp only [if_neg (show ¬ (x = ((61 : UInt8).toNat : Int) ∧ y = ((61 : UInt8).toNat : Int)) from n3)]
    by_cases n4 : x = 33 ∧ y = 61
    · simp only [if_pos (show x = ((33 : UInt8).toNat : Int) ∧ y = ((61 : UInt8).toNat : Int) from n4)]
      exact hyes _ (by rw [beq_iff_eq, toList_two _ _ _ x y hc]; exact n4) (by obtain ⟨rfl, rfl⟩ := n4; rfl)
    simp only [if_neg (show ¬ (x = ((33 : UInt8).toNat : Int) ∧ y = ((61 : UInt8).toNat : Int)) from n4)]
    by_cases n5 : x = 38 ∧ y = 38
    · simp only [if_pos (show x = ((38 : UInt8).toNat : Int) ∧ y = ((38 : UInt8).toNat : Int) from n5)]
      exact hyes _ (by rw [beq_iff_eq, toList_two _ _ _ x y hc]; exact n5) (by obtain ⟨rfl, rfl⟩ := n5; rfl)
    simp only [if_neg (show ¬ (x = ((38 : UInt8).toNat : Int) ∧ y = ((38 : UInt8).toNat : Int)) from n5)]
    by_cases n6 : x = 124 ∧ y = 124
    · exact hyes _ (by rw [beq_iff_eq, toList_two _ _ _ x y hc]; exact n6) (by obtain ⟨rfl, rfl⟩ := n6; rfl)
    · have hf : ((s.extract i (i + 2)).toList == ([124, 124] : List UInt8)) = false := by
        rw [beq_eq_false_iff_ne]
        intro e
        exact n6 ((toList_two _ 124 124 x y hc).1 e)
      rw [hf]
      refine hone ?_
      unfold sg2 sgn2
      simp only [Bool.or_eq_false_iff, Bool.and_eq_false_iff, beq_eq_false_iff_ne]
      omega
  · have hl0 : l = [] := by
      rw [← hl', List.drop_eq_nil_iff, bytesOf_length]; omega
    subst hl0
    simp only [if_neg (show ¬ ((i + 2 : Nat) : Int) ≤ (s.size : Int) by omega)]
    exact hcore rfl
theorem i_app (s : ByteArray) (hs : s.size ≤ 1048576) (o : List S33) (k0 f j : Int) (ho : o.length < 1048577) (hj : 0 ≤ j) (R : List S33 × Bool)
    (h : Ev (fun k => impl_TokensOf.l0 k s (o ++ [(⟨k0, f, j⟩ : S33)]) j) R) :
    Ev (fun k => if j < 0 then (some (([] : List S33), false)) else (if o.length < 5864062014805 then (impl_TokensOf.l0 k s (o ++ [(⟨k0, f, j⟩ : S33)]) j) else none)) R := by
  simp only [if_neg (show ¬ j < 0 by omega), if_pos (show o.length < 5864062014805 by omega)]
  exact h
theorem i_name_l (s : ByteArray) (hs : s.size ≤ 1048576) (o : List S33) (k0 f : Int) (ho : o.length < 1048577) (R : List S33 × Bool) : ∀ (l : List Int) (i : Nat), (bytesOf s).drop i = l → i ≤ s.size →
    Ev (fun k => impl_TokensOf.l0 k s (o ++ [(⟨k0, f, ((i + (l.takeWhile nameb).length : Nat) : Int)⟩ : S33)]) ((i + (l.takeWhile nameb).length : Nat) : Int)) R → Ev (fun k => impl_TokensOf.l1 k s o k0 f (i : Int)) R := by
  intro l
  induction l with
  | nil =>
    intro i hl hi h
    have hn : s.size = i := by
      have := List.drop_eq_nil_iff.1 hl
      rw [bytesOf_length] at this; omega
    refine Ev.step (fun k => by rw [impl_TokensOf.l1]) ?_
    simp only [if_neg (show ¬ (i : Int) < (s.size : Int) by omega)]
    exact i_app s hs o k0 f (i : Int) ho (by omega) R h
  | cons x l ih =>
    intro i hl hi h
    have hlt : i < s.size := lt_of_drop hl
    obtain ⟨hx, hl'⟩ := drop_split hl hlt
    have hb := bt_nat s i
    have hr := getD_range s i
    rw [hx] at hb hr
    refine Ev.step (fun k => by rw [impl_TokensOf.l1]) ?_
    simp only [if_pos (show (i : Int) < (s.size : Int) by omega), if_pos (show (0 : Int) ≤ (i : Int) by omega), hb, inameb x hr, Option.bind_some, w64s (show i + 1 < 9223372036854775808 by omega)]
    rw [List.takeWhile_cons] at h
    cases hn : nameb x
    · rw [hn] at h
      simp only [Bool.false_eq_true, if_false] at h ⊢
      exact i_app s hs o k0 f (i : Int) ho (by omega) R h
    · rw [hn] at h
      simp only [if_true, List.length_cons] at h ⊢
      rw [show i + ((l.takeWhile nameb).length + 1) = i + 1 + (l.takeWhile nameb).length by omega] at h
      exact ih (i + 1) hl' (by omega) h
theorem i_num_l (s : ByteArray) (hs : s.size ≤ 1048576) (o : List S33) (k0 f : Int) (ho : o.length < 1048577) (R : List S33 × Bool) : ∀ (l : List Int) (i : Nat), (bytesOf s).drop i = l → i ≤ s.size →
    Ev (fun k => impl_TokensOf.l0 k s (o ++ [(⟨k0, f, ((i + (l.takeWhile numb).length : Nat) : Int)⟩ : S33)]) ((i + (l.takeWhile numb).length : Nat) : Int)) R → Ev (fun k => impl_TokensOf.l2 k s o k0 f (i : Int)) R := by
  intro l
  induction l with
  | nil =>
    intro i hl hi h
    have hn : s.size = i := by
      have := List.drop_eq_nil_iff.1 hl
      rw [bytesOf_length] at this; omega
    refine Ev.step (fun k => by rw [impl_TokensOf.l2]) ?_
    simp only [if_neg (show ¬ (i : Int) < (s.size : Int) by omega)]
    exact i_app s hs o k0 f (i : Int) ho (by omega) R h
  | cons x l ih =>
    intro i hl hi h
    have hlt : i < s.size := lt_of_drop hl
    obtain ⟨hx, hl'⟩ := drop_split hl hlt
    have hb := bt_nat s i
    have hr := getD_range s i
    rw [hx] at hb hr
    refine Ev.step (fun k => by rw [impl_TokensOf.l2]) ?_
    simp only [if_pos (show (i : Int) < (s.size : Int) by omega), if_pos (show (0 : Int) ≤ (i : Int) by omega), hb, idigit x hr, Option.bind_some, w64s (show i + 1 < 9223372036854775808 by omega)]
    rw [List.takeWhile_cons] at h
    have hyes : numb x = true → Ev (fun k => impl_TokensOf.l2 k s o k0 f ((i + 1 : Nat) : Int)) R := by
      intro hn
      rw [if_pos hn, List.length_cons, show i + ((l.takeWhile numb).length + 1) = i + 1 + (l.takeWhile numb).length by omega] at h
      exact ih (i + 1) hl' (by omega) h
    cases hd : digb x
    · simp only [Bool.false_eq_true, if_false]
      by_cases h46 : x = 46
      · simp only [if_pos h46]
        exact hyes (by unfold numb; simp [h46])
      · simp only [if_neg h46]
        have hn : numb x = false := by unfold numb; simp [hd, h46]
        rw [if_neg (by rw [hn]; decide)] at h
        exact i_app s hs o k0 f (i : Int) ho (by omega) R h
    · simp only [if_true]
      exact hyes (by unfold numb; simp [hd])
theorem i_toks_l (s : ByteArray) (hs : s.size ≤ 1048576) : ∀ (n : Nat) (M : List Int) (i : Nat) (o : List S33), M.length ≤ n → (bytesOf s).drop i = M → i ≤ s.size → o.length ≤ i →
    Ev (fun k => impl_TokensOf.l0 k s o (i : Int)) (tokR (toks n M i) o) := by
  intro n
  have hend : ∀ (i : Nat) (o : List S33), ¬ i < s.size → i ≤ s.size → o.length ≤ i → Ev (fun k => impl_TokensOf.l0 k s o (i : Int)) (o, true) := by
    intro i o h1 h2 h3
    refine Ev.step (fun k => by rw [impl_TokensOf.l0]) ?_
    simp only [if_neg (show ¬ (i : Int) < (s.size : Int) by omega)]
    refine ev_const fun k => ?_
    unfold impl_Token.f
    rw [if_pos (by omega)]; rfl
  induction n with
  | zero =>
    intro M i o hn hl hi ho
    have : M = [] := List.length_eq_zero_iff.1 (by omega)
    subst this
    have hz := List.drop_eq_nil_iff.1 hl
    rw [bytesOf_length] at hz
    simp only [toks, tokR, List.map_nil, List.append_nil]
    exact hend i o (by omega) hi ho
  | succ n ih =>
    intro M i o hn hl hi ho
    match M, hn, hl with
    | [], hn, hl =>
      have hz := List.drop_eq_nil_iff.1 hl
      rw [bytesOf_length] at hz
      simp only [toks, tokR, List.map_nil, List.append_nil]
      exact hend i o (by omega) hi ho
    | x :: l, hn, hl =>
      have hlt := lt_of_drop hl
      obtain ⟨hx, hl'⟩ := drop_split hl hlt
      have hb := bt_nat s i
      have hr := getD_range s i
      rw [hx] at hb hr
      have hML : (x :: l).length = s.size - i := by rw [← hl, List.length_drop, bytesOf_length]
      have hgo : ∀ k m, tok (x :: l) = some (k, m) → Ev (fun q => impl_TokensOf.l0 q s (o ++ [(⟨k, (i : Int), ((i + m : Nat) : Int)⟩ : S33)]) ((i + m : Nat) : Int)) (tokR ((toks n ((x :: l).drop m) (i + m)).map fun ts => (k, i, i + m) :: ts) o) := by
        intro k m ht
        have hm := tok_le _ k m ht
        have h := ih ((x :: l).drop m) (i + m) (o ++ [tk (k, i, i + m)]) (by rw [List.length_drop]; omega) (by rw [← hl, List.drop_drop]) (by omega) (by simp; omega)
        have e : tokR (toks n ((x :: l).drop m) (i + m)) (o ++ [tk (k, i, i + m)]) = tokR ((toks n ((x :: l).drop m) (i + m)).map fun ts => (k, i, i + m) :: ts) o := by
          cases toks n ((x :: l).drop m) (i + m) with
          | none => rfl
          | some ts => simp [tokR]
        rw [e] at h
        exact h
      refine Ev.step (fun k => by rw [impl_TokensOf.l0]) ?_
      simp only [if_pos (show (i : Int) < (s.size : Int) by omega), if_pos (show (0 : Int) ≤ (i : Int) by omega), hb, ismall x hr, idigit x hr, Option.bind_some, w64s (show i + 1 < 9223372036854775808 by omega)]
      rw [toks]
      by_cases h32 : x = 32
      · simp only [if_pos h32]
        exact ih l (i + 1) o (by simp only [List.length_cons] at hn; omega) hl' (by omega) (by omega)
      · simp only [if_neg h32]
        cases h1 : letb x
        · simp only [Bool.false_eq_true, if_false]
          cases h2 : digb x
          · simp only [Bool.false_eq_true, if_false]
            by_cases h34 : x = 34
            · simp only [if_pos h34]
              have ht : tok (x :: l) = (qend l).map fun n => (3, 1 + n) := by rw [tok, h1, h2, if_pos h34]; rfl
              have hte : Ev (fun k => impl_textEnd.f k s (i : Int)) (match qend l with | none => (-1) | some m => ((i + 1 + m : Nat) : Int)) := by
                unfold impl_textEnd.f
                rw [w64s (by omega)]
                exact i_text_l s (by omega) l.length l (i + 1) (Nat.le_refl _) hl' (by omega)
              refine ev_bind hte ?_
              rw [ht]
              cases hq : qend l with
              | none =>
                simp only [show (-1 : Int) < 0 by omega, if_true, Option.map_none, tokR]
                exact Ev.now _
              | some m =>
                simp only [Option.map_some]
                rw [hq] at ht
                have := hgo 3 (1 + m) ht
                rw [show i + (1 + m) = i + 1 + m by omega] at this ⊢
                exact i_app s hs o 3 (i : Int) _ (by omega) (by omega) _ this
            · simp only [if_neg h34]
              have ht : tok (x :: l) = (sgnLen x l).map fun n => (4, n) := by rw [tok, h1, h2, if_neg h34]; rfl
              refine ev_bind (i_sign s (by omega) i x l hl) ?_
              rw [ht]
              cases hq : sgnLen x l with
              | none =>
                simp only [show (-1 : Int) < 0 by omega, if_true, Option.map_none, tokR]
                exact Ev.now _
              | some m =>
                simp only [Option.map_some]
                rw [hq] at ht
                exact i_app s hs o 4 (i : Int) _ (by omega) (by omega) _ (hgo 4 m ht)
          · simp only [if_true]
            have ht : tok (x :: l) = some (2, 1 + (l.takeWhile numb).length) := by rw [tok, h1, h2]; rfl
            have := hgo _ _ ht
            rw [ht]
            simp only
            rw [show i + (1 + (l.takeWhile numb).length) = i + 1 + (l.takeWhile numb).length by omega] at this ⊢
            exact i_num_l s hs o 2 (i : Int) (by omega) _ l (i + 1) hl' (by omega) this
        · simp only [if_true]
          have ht : tok (x :: l) = some (1, 1 + (l.takeWhile nameb).length) := by rw [tok, h1]; rfl
          have := hgo _ _ ht
          rw [ht]
          simp only
          rw [show i + (1 + (l.takeWhile nameb).length) = i + 1 + (l.takeWhile nameb).length by omega] at this ⊢
          exact i_name_l s hs o 1 (i : Int) (by omega) _ l (i + 1) hl' (by omega) this
theorem impl_toks (s : ByteArray) (hs : s.size ≤ 1048576) : Ev (fun k => impl_TokensOf.f k s) (tokR (toksOf (bytesOf s)) []) := by
  unfold impl_TokensOf.f toksOf
  refine ev_bind (impl_tv s (by omega)) ?_
  have hno : Ev (fun k => impl_TokensOf.j0 k s true) (([] : List S33), false) := by
    refine Ev.step (fun k => by rw [impl_TokensOf.j0]) ?_
    simp only [if_true]; exact Ev.now _
  by_cases ht : tv (bytesOf s) = true
  · simp only [ht, if_true, hasLineEnd_eq, Option.bind_some]
    cases hc : (bytesOf s).contains 10
    · refine Ev.step (fun k => by rw [impl_TokensOf.j0]) ?_
      simp only [Bool.false_eq_true, if_false, and_self, if_true]
      exact i_toks_l s hs _ (bytesOf s) 0 [] (Nat.le_refl _) rfl (by omega) (by simp)
    · simp only [Bool.true_eq_false, and_false, if_false]
      exact hno
  · simp only [ht, false_and, if_false]
    exact hno

/-- the tokens lie in the text, one behind the other. -/
def tokOrd (i e : Nat) : List (Int × Nat × Nat) → Prop
  | [] => True
  | p :: ts => i ≤ p.2.1 ∧ p.2.1 < p.2.2 ∧ p.2.2 ≤ e ∧ tokOrd p.2.2 e ts
theorem tokOrd_le {i j e : Nat} {ts : List (Int × Nat × Nat)} (h : tokOrd j e ts) (hij : i ≤ j) : tokOrd i e ts := by
  cases ts with
  | nil => trivial
  | cons p ts => exact ⟨by have := h.1; omega, h.2.1, h.2.2.1, h.2.2.2⟩
theorem toks_ord : ∀ (n : Nat) (M : List Int) (i : Nat) (ts : List (Int × Nat × Nat)), M.length ≤ n → toks n M i = some ts → tokOrd i (i + M.length) ts := by
  intro n
  induction n with
  | zero =>
    intro M i ts hn h
    have : M = [] := List.length_eq_zero_iff.1 (by omega)
    subst this
    rw [toks] at h
    obtain rfl := Option.some.inj h
    trivial
  | succ n ih =>
    intro M i ts hn h
    match M, hn, h with
    | [], _, h =>
      rw [toks] at h
      obtain rfl := Option.some.inj h
      trivial
    | x :: l, hn, h =>
      simp only [List.length_cons] at hn
      rw [toks] at h
      split at h
      · have := ih l (i + 1) ts (by omega) h
        simp only [List.length_cons]
        rw [show i + (l.length + 1) = i + 1 + l.length by omega]
        exact tokOrd_le this (by omega)
      · cases ht : tok (x :: l) with
        | none => rw [ht] at h; simp at h
        | some p =>
          obtain ⟨k, m⟩ := p
          rw [ht] at h
          have hm := tok_le _ k m ht
          obtain ⟨ts', h', rfl⟩ := Option.map_eq_some_iff.1 h
          have := ih _ (i + m) ts' (by rw [List.length_drop]; simp only [List.length_cons] at hm ⊢; omega) h'
          rw [List.length_drop, show i + m + ((x :: l).length - m) = i + (x :: l).length by omega] at this
          exact ⟨by simp only; omega, by simp only; omega, by simp only; omega, this⟩
theorem tokOrd_mem {i e : Nat} : ∀ {ts : List (Int × Nat × Nat)}, tokOrd i e ts → ∀ p ∈ ts, i ≤ p.2.1 ∧ p.2.1 < p.2.2 ∧ p.2.2 ≤ e
  | [], _, p, hp => by cases hp
  | q :: ts, h, p, hp => by
    rcases List.mem_cons.1 hp with rfl | hp
    · exact ⟨h.1, h.2.1, h.2.2.1⟩
    · have := tokOrd_mem h.2.2.2 p hp
      have := h.1
      have := h.2.1
      omega
theorem toks_len {n : Nat} {M : List Int} {i : Nat} {ts : List (Int × Nat × Nat)} (hn : M.length ≤ n) (h : toks n M i = some ts) : ts.length ≤ M.length := by
  have ho := toks_ord n M i ts hn h
  have : ∀ (ts : List (Int × Nat × Nat)) (j e : Nat), tokOrd j e ts → j ≤ e → ts.length ≤ e - j := by
    intro ts
    induction ts with
    | nil => intro j e _ _; simp
    | cons p ts ih =>
      intro j e h hje
      have := ih p.2.2 e h.2.2.2 h.2.2.1
      have := h.1; have := h.2.1; have := h.2.2.1
      simp only [List.length_cons]; omega
  have := this ts i _ ho (by omega)
  omega
theorem toksOf_some {L : List Int} {ts : List (Int × Nat × Nat)} (h : toksOf L = some ts) : tv L = true ∧ L.contains 10 = false ∧ toks L.length L 0 = some ts := by
  unfold toksOf at h
  split at h
  · rename_i hc; exact ⟨hc.1, hc.2, h⟩
  · cases h
theorem toksOf_in {L : List Int} {ts : List (Int × Nat × Nat)} (h : toksOf L = some ts) : ∀ p ∈ ts, p.2.1 < p.2.2 ∧ p.2.2 ≤ L.length := by
  intro p hp
  have := tokOrd_mem (toks_ord _ _ _ _ (Nat.le_refl _) (toksOf_some h).2.2) p hp
  omega
theorem toksOf_len {L : List Int} {ts : List (Int × Nat × Nat)} (h : toksOf L = some ts) : ts.length ≤ L.length := toks_len (Nat.le_refl _) (toksOf_some h).2.2

/-! a token by itself, and a text behind another -/
theorem takeWhile_self {p : Int → Bool} (l : List Int) : (l.takeWhile p).takeWhile p = l.takeWhile p := by
  induction l with
  | nil => rfl
  | cons x l ih =>
    by_cases h : p x = true
    · rw [List.takeWhile_cons_of_pos h, List.takeWhile_cons_of_pos h, ih]
    · rw [List.takeWhile_cons_of_neg h]; rfl
theorem take_takeWhile {p : Int → Bool} (l : List Int) : l.take (l.takeWhile p).length = l.takeWhile p := (List.prefix_iff_eq_take.1 (List.takeWhile_prefix p)).symm
theorem takeWhile_sp {p : Int → Bool} (h32 : p 32 = false) (l X : List Int) : (l ++ 32 :: X).takeWhile p = l.takeWhile p := by
  induction l with
  | nil => rw [List.nil_append, List.takeWhile_cons_of_neg (by rw [h32]; exact Bool.false_ne_true)]; rfl
  | cons x l ih =>
    rw [List.cons_append]
    by_cases h : p x = true
    · rw [List.takeWhile_cons_of_pos h, List.takeWhile_cons_of_pos h, ih]
    · rw [List.takeWhile_cons_of_neg h, List.takeWhile_cons_of_neg h]
theorem qend_take : ∀ (n : Nat) (l : List Int), l.length ≤ n → ∀ m, qend l = some m → qend (l.take m) = some m := by
  intro n
  induction n with
  | zero =>
    intro l hn m h
    have : l = [] := List.length_eq_zero_iff.1 (by omega)
    subst this; simp [qend] at h
  | succ n ih =>
    intro l hn m h
    match l, hn, h with
    | [], _, h => simp [qend] at h
    | [x], hn, h =>
      have hm := qend_le _ [x] (Nat.le_refl _) m h
      simp only [List.length_cons, List.length_nil] at hm
      obtain rfl : m = 1 := by omega
      exact h
    | x :: y :: l, hn, h =>
      rw [qend] at h
      simp only [List.length_cons] at hn
      by_cases h34 : x = 34
      · rw [if_pos h34] at h
        obtain rfl := Option.some.inj h
        rw [List.take_succ_cons, List.take_zero, qend, if_pos h34]
      · rw [if_neg h34] at h
        by_cases h92 : x = 92
        · rw [if_pos h92] at h
          obtain ⟨k, hk, rfl⟩ := Option.map_eq_some_iff.1 h
          rw [List.take_succ_cons, List.take_succ_cons, qend, if_neg h34, if_pos h92, ih l (by omega) k hk]; rfl
        · rw [if_neg h92] at h
          obtain ⟨k, hk, rfl⟩ := Option.map_eq_some_iff.1 h
          have h1 := ih (y :: l) (by simp only [List.length_cons]; omega) k hk
          have hk1 := (qend_le _ _ (Nat.le_refl _) k hk).1
          obtain ⟨j, rfl⟩ : ∃ j, k = j + 1 := ⟨k - 1, by omega⟩
          rw [List.take_succ_cons] at h1
          rw [List.take_succ_cons, List.take_succ_cons, qend, if_neg h34, if_neg h92, h1]; rfl
theorem qend_app (Y : List Int) : ∀ (n : Nat) (l : List Int), l.length ≤ n → ∀ m, qend l = some m → qend (l ++ Y) = some m := by
  intro n
  induction n with
  | zero =>
    intro l hn m h
    have : l = [] := List.length_eq_zero_iff.1 (by omega)
    subst this; simp [qend] at h
  | succ n ih =>
    intro l hn m h
    match l, hn, h with
    | [], _, h => simp [qend] at h
    | [x], hn, h =>
      rw [qend] at h
      by_cases h34 : x = 34
      · rw [if_pos h34] at h
        obtain rfl := Option.some.inj h
        cases Y with
        | nil => rw [List.append_nil, qend, if_pos h34]
        | cons y Y => rw [List.cons_append, List.nil_append, qend, if_pos h34]
      · rw [if_neg h34] at h; cases h
    | x :: y :: l, hn, h =>
      rw [qend] at h
      simp only [List.length_cons] at hn
      rw [List.cons_append, List.cons_append, qend]
      by_cases h34 : x = 34
      · rw [if_pos h34] at h ⊢; exact h
      · rw [if_neg h34] at h ⊢
        by_cases h92 : x = 92
        · rw [if_pos h92] at h ⊢
          obtain ⟨k, hk, rfl⟩ := Option.map_eq_some_iff.1 h
          rw [ih l (by omega) k hk]; rfl
        · rw [if_neg h92] at h ⊢
          obtain ⟨k, hk, rfl⟩ := Option.map_eq_some_iff.1 h
          rw [← List.cons_append, ih (y :: l) (by simp only [List.length_cons]; omega) k hk]; rfl
theorem tok_take {M : List Int} {k : Int} {n : Nat} (h : tok M = some (k, n)) : tok (M.take n) = some (k, n) := by
  match M, h with
  | x :: l, h =>
    rw [tok] at h
    by_cases h1 : letb x = true
    · rw [if_pos h1] at h
      obtain ⟨rfl, rfl⟩ := Prod.mk.inj (Option.some.inj h)
      rw [Nat.add_comm, List.take_succ_cons, take_takeWhile, tok, if_pos h1, takeWhile_self, Nat.add_comm]
    · rw [if_neg h1] at h
      by_cases h2 : digb x = true
      · rw [if_pos h2] at h
        obtain ⟨rfl, rfl⟩ := Prod.mk.inj (Option.some.inj h)
        rw [Nat.add_comm, List.take_succ_cons, take_takeWhile, tok, if_neg h1, if_pos h2, takeWhile_self, Nat.add_comm]
      · rw [if_neg h2] at h
        by_cases h3 : x = 34
        · rw [if_pos h3] at h
          obtain ⟨m, hm, he⟩ := Option.map_eq_some_iff.1 h
          obtain ⟨rfl, rfl⟩ := Prod.mk.inj he
          rw [Nat.add_comm, List.take_succ_cons, tok, if_neg h1, if_neg h2, if_pos h3, qend_take _ l (Nat.le_refl _) m hm, Option.map_some, Nat.add_comm]
        · rw [if_neg h3] at h
          obtain ⟨m, hm, he⟩ := Option.map_eq_some_iff.1 h
          obtain ⟨rfl, rfl⟩ := Prod.mk.inj he
          unfold sgnLen at hm
          by_cases h4 : sg2 x l = true
          · rw [if_pos h4] at hm
            obtain rfl := Option.some.inj hm
            cases l with
            | nil => simp [sg2] at h4
            | cons y l =>
              have h5 : sg2 x [y] = true := h4
              rw [List.take_succ_cons, List.take_succ_cons, List.take_zero, tok, if_neg h1, if_neg h2, if_neg h3, sgnLen, if_pos h5]; rfl
          · rw [if_neg h4] at hm
            by_cases h5 : sgn1 x = true
            · rw [if_pos h5] at hm
              obtain rfl := Option.some.inj hm
              rw [List.take_succ_cons, List.take_zero, tok, if_neg h1, if_neg h2, if_neg h3, sgnLen, if_neg (show ¬ sg2 x [] = true from Bool.false_ne_true), if_pos h5]; rfl
            · rw [if_neg h5] at hm; cases hm
theorem sgn2_sp (x : Int) : sgn2 x 32 = false := by
  unfold sgn2; simp
theorem tok_sp {M : List Int} {k : Int} {n : Nat} (X : List Int) (h : tok M = some (k, n)) : tok (M ++ 32 :: X) = some (k, n) := by
  match M, h with
  | x :: l, h =>
    rw [tok] at h
    rw [List.cons_append, tok]
    by_cases h1 : letb x = true
    · rw [if_pos h1] at h ⊢
      rw [takeWhile_sp (by decide)]; exact h
    · rw [if_neg h1] at h ⊢
      by_cases h2 : digb x = true
      · rw [if_pos h2] at h ⊢
        rw [takeWhile_sp (by decide)]; exact h
      · rw [if_neg h2] at h ⊢
        by_cases h3 : x = 34
        · rw [if_pos h3] at h ⊢
          obtain ⟨m, hm, he⟩ := Option.map_eq_some_iff.1 h
          rw [qend_app _ _ l (Nat.le_refl _) m hm, Option.map_some, he]
        · rw [if_neg h3] at h ⊢
          have e : sgnLen x (l ++ 32 :: X) = sgnLen x l := by
            unfold sgnLen
            cases l with
            | nil => rw [List.nil_append, sg2, sg2, sgn2_sp]
            | cons y l => rw [List.cons_append, sg2, sg2]
          rw [e]; exact h
def shT (d : Nat) (p : Int × Nat × Nat) : Int × Nat × Nat := (p.1, p.2.1 + d, p.2.2 + d)
theorem toks_shift (d : Nat) : ∀ (n : Nat) (M : List Int) (i : Nat), toks n M (i + d) = (toks n M i).map (List.map (shT d)) := by
  intro n
  induction n with
  | zero => intro M i; cases M <;> rfl
  | succ n ih =>
    intro M i
    match M with
    | [] => rfl
    | x :: l =>
      rw [toks, toks]
      by_cases h32 : x = 32
      · rw [if_pos h32, if_pos h32, show i + d + 1 = i + 1 + d by omega]
        exact ih l (i + 1)
      · rw [if_neg h32, if_neg h32]
        cases ht : tok (x :: l) with
        | none => rfl
        | some p =>
          obtain ⟨k, m⟩ := p
          simp only
          rw [show i + d + m = i + m + d by omega, ih _ (i + m), Option.map_map, Option.map_map]
          congr 1
/-- a text, a space, and another text. -/
theorem toks_app (B : List Int) : ∀ (n : Nat) (A : List Int) (i : Nat) (ta : List (Int × Nat × Nat)), A.length ≤ n → toks n A i = some ta →
    ∀ N, A.length + 1 + B.length ≤ N → toks N (A ++ 32 :: B) i = (toks N B (i + A.length + 1)).map (ta ++ ·) := by
  intro n
  induction n with
  | zero =>
    intro A i ta hn h N hN
    have : A = [] := List.length_eq_zero_iff.1 (by omega)
    subst this
    rw [toks] at h
    obtain rfl := Option.some.inj h
    cases N with
    | zero => simp at hN
    | succ N =>
      rw [List.nil_append, toks, if_pos rfl, List.length_nil, Nat.add_zero]
      rw [toks_more N B (i + 1) (N + 1) (by simp at hN; omega) (by simp at hN; omega)]
      cases toks (N + 1) B (i + 1) <;> rfl
  | succ n ih =>
    intro A i ta hn h N hN
    match A, hn, h, hN with
    | [], _, h, hN =>
      rw [toks] at h
      obtain rfl := Option.some.inj h
      cases N with
      | zero => simp at hN
      | succ N =>
        rw [List.nil_append, toks, if_pos rfl, List.length_nil, Nat.add_zero]
        rw [toks_more N B (i + 1) (N + 1) (by simp at hN; omega) (by simp at hN; omega)]
        cases toks (N + 1) B (i + 1) <;> rfl
    | x :: l, hn, h, hN =>
      simp only [List.length_cons] at hn hN
      rw [toks] at h
      cases N with
      | zero => omega
      | succ N =>
        by_cases h32 : x = 32
        · rw [if_pos h32] at h
          rw [List.cons_append, toks, if_pos h32, ih l (i + 1) ta (by omega) h N (by omega), List.length_cons]
          rw [toks_more N B (i + 1 + l.length + 1) (N + 1) (by omega) (by omega)]
          rw [show i + 1 + l.length + 1 = i + (l.length + 1) + 1 by omega]
        · rw [if_neg h32] at h
          cases ht : tok (x :: l) with
          | none => rw [ht] at h; simp at h
          | some p =>
            obtain ⟨k, m⟩ := p
            rw [ht] at h
            have hm := tok_le _ k m ht
            simp only [List.length_cons] at hm
            obtain ⟨ts', h', rfl⟩ := Option.map_eq_some_iff.1 h
            have ht2 := tok_sp B ht
            rw [List.cons_append] at ht2
            rw [List.cons_append, toks, if_neg h32, ht2]
            simp only
            rw [show (x :: (l ++ 32 :: B)).drop m = (x :: l).drop m ++ 32 :: B by rw [← List.cons_append, List.drop_append_of_le_length (by simp only [List.length_cons]; omega)]]
            rw [ih _ (i + m) ts' (by rw [List.length_drop]; simp only [List.length_cons]; omega) h' N (by rw [List.length_drop]; simp only [List.length_cons]; omega)]
            rw [List.length_drop, List.length_cons, Option.map_map]
            rw [toks_more N B _ (N + 1) (by omega) (by omega)]
            rw [show i + m + (l.length + 1 - m) + 1 = i + (l.length + 1) + 1 by omega]
            rfl
theorem toks_one {M : List Int} {k : Int} {n : Nat} (h : tok M = some (k, n)) (h32 : M.head? ≠ some 32) (i : Nat) : ∀ N, n ≤ N → toks N (M.take n) i = some [(k, i, i + n)] := by
  intro N hN
  have hn := tok_le M k n h
  have ht := tok_take h
  match M, hn, ht, h32 with
  | x :: l, hn, ht, h32 =>
    cases N with
    | zero => omega
    | succ N =>
      obtain ⟨j, rfl⟩ : ∃ j, n = j + 1 := ⟨n - 1, by omega⟩
      rw [List.take_succ_cons] at ht ⊢
      rw [toks, if_neg (fun e => h32 (by rw [e]; rfl)), ht]
      simp only
      rw [List.drop_of_length_le (by simp only [List.length_cons, List.length_take]; omega)]
      cases N <;> rfl

def wordsB (s : ByteArray) : List ByteArray := match toksOf (bytesOf s) with | none => [] | some ts => ts.map fun p => s.extract p.2.1 p.2.2
theorem rdT_map (ts : List (Int × Nat × Nat)) (j : Nat) (p : Int × Nat × Nat) (h : ts[j]? = some p) : rd_T33 (ts.map tk) (j : Int) = tk p := by
  unfold rd_T33
  rw [List.getD_eq_getElem?_getD, Int.toNat_natCast, List.getElem?_map, h]; rfl
theorem drop_get {α : Type} {l : List α} {j : Nat} {p : α} {r : List α} (h : l.drop j = p :: r) : l[j]? = some p ∧ l.drop (j + 1) = r ∧ j < l.length := by
  have hj : j < l.length := by
    rcases Nat.lt_or_ge j l.length with h' | h'
    · exact h'
    · rw [List.drop_eq_nil_iff.2 h'] at h; cases h
  rw [List.drop_eq_getElem_cons hj] at h
  obtain ⟨h1, h2⟩ := List.cons.inj h
  exact ⟨by rw [List.getElem?_eq_getElem hj, h1], h2, hj⟩
theorem wordsB_len (s : ByteArray) : (wordsB s).length ≤ s.size := by
  unfold wordsB
  cases h : toksOf (bytesOf s) with
  | none => simp
  | some ts =>
    have := toksOf_len h
    rw [bytesOf_length] at this
    simpa using this

/-- the tokens of a text and the spaces between them. -/
def spOrd (L : List Int) : Nat → List (Int × Nat × Nat) → Prop
  | i, [] => ∀ j, i ≤ j → j < L.length → L.getD j 0 = 32
  | i, p :: ts => i ≤ p.2.1 ∧ (∀ j, i ≤ j → j < p.2.1 → L.getD j 0 = 32) ∧ (∃ n, tok (L.drop p.2.1) = some (p.1, n) ∧ p.2.2 = p.2.1 + n) ∧ (L.drop p.2.1).head? ≠ some 32 ∧ spOrd L p.2.2 ts
theorem spOrd_sp (L : List Int) (i : Nat) (ts : List (Int × Nat × Nat)) (h32 : L.getD i 0 = 32) (h : spOrd L (i + 1) ts) : spOrd L i ts := by
  cases ts with
  | nil =>
    intro j h1 h2
    by_cases e : j = i
    · rw [e]; exact h32
    · exact h j (by omega) h2
  | cons p ts =>
    obtain ⟨g1, g2, g3, g4, g5⟩ := h
    refine ⟨by omega, fun j h1 h2 => ?_, g3, g4, g5⟩
    by_cases e : j = i
    · rw [e]; exact h32
    · exact g2 j (by omega) h2
theorem toks_sp (L : List Int) : ∀ (n : Nat) (M : List Int) (i : Nat) (ts : List (Int × Nat × Nat)), M.length ≤ n → L.drop i = M → toks n M i = some ts → spOrd L i ts := by
  intro n
  induction n with
  | zero =>
    intro M i ts hn hd h
    have : M = [] := List.length_eq_zero_iff.1 (by omega)
    subst this
    rw [toks] at h
    obtain rfl := Option.some.inj h
    have := List.drop_eq_nil_iff.1 hd
    intro j h1 h2; omega
  | succ n ih =>
    intro M i ts hn hd h
    match M, hn, hd, h with
    | [], _, hd, h =>
      rw [toks] at h
      obtain rfl := Option.some.inj h
      have := List.drop_eq_nil_iff.1 hd
      intro j h1 h2; omega
    | x :: l, hn, hd, h =>
      simp only [List.length_cons] at hn
      have hlt : i < L.length := by
        rcases Nat.lt_or_ge i L.length with h1 | h1
        · exact h1
        · rw [List.drop_eq_nil_iff.2 h1] at hd; cases hd
      have hd' := hd
      rw [drop_cons L i hlt] at hd'
      obtain ⟨hx, hl⟩ := List.cons.inj hd'
      rw [toks] at h
      by_cases h32 : x = 32
      · rw [if_pos h32] at h
        exact spOrd_sp L i ts (by rw [hx, h32]) (ih l (i + 1) ts (by omega) hl h)
      · rw [if_neg h32] at h
        cases ht : tok (x :: l) with
        | none => rw [ht] at h; simp at h
        | some p =>
          obtain ⟨k, m⟩ := p
          rw [ht] at h
          have hm := tok_le _ k m ht
          obtain ⟨ts', h', rfl⟩ := Option.map_eq_some_iff.1 h
          have hr := ih _ (i + m) ts' (by rw [List.length_drop]; simp only [List.length_cons] at hm ⊢; omega) (by rw [← hd, List.drop_drop]) h'
          refine ⟨Nat.le_refl _, fun j h1 h2 => by simp only at h2; omega, ⟨m, ?_, rfl⟩, ?_, hr⟩
          · simp only; rw [hd]; exact ht
          · simp only; rw [hd]; simpa using h32
theorem tv_part {L : List Int} (h : tv L = true) (i j : Nat) : tv ((L.take j).drop i) = true := by
  unfold tv at *
  simp only [Bool.and_eq_true, decide_eq_true_eq, List.all_eq_true] at *
  refine ⟨fun x hx => h.1 x (List.mem_of_mem_take (List.mem_of_mem_drop hx)), ?_⟩
  rw [List.length_drop, List.length_take]; omega
theorem nl_part {L : List Int} (h : L.contains 10 = false) (i j : Nat) : ((L.take j).drop i).contains 10 = false := by
  rw [List.contains_eq_mem, decide_eq_false_iff_not] at *
  exact fun hx => h (List.mem_of_mem_take (List.mem_of_mem_drop hx))
theorem part_take (L : List Int) (i n : Nat) : (L.take (i + n)).drop i = (L.drop i).take n := by
  rw [List.drop_take, Nat.add_sub_cancel_left]
/-- a token's own text has that token alone. -/
theorem toksOf_part {L : List Int} (hv : tv L = true) (hn : L.contains 10 = false) {i : Nat} {k : Int} {n : Nat} (ht : tok (L.drop i) = some (k, n)) (h32 : (L.drop i).head? ≠ some 32) :
    toksOf ((L.take (i + n)).drop i) = some [(k, 0, n)] := by
  have hl := tok_le _ k n ht
  unfold toksOf
  rw [if_pos ⟨tv_part hv i (i + n), nl_part hn i (i + n)⟩, part_take, toks_one ht h32 0 _ (by rw [List.length_take]; omega), Nat.zero_add]

theorem tmod_nn (a b : Int) (ha : 0 ≤ a) (hb : 0 < b) : 0 ≤ Int.tmod a b ∧ Int.tmod a b < b ∧ Int.tmod a b ≤ a := by
  rw [Int.tmod_eq_emod_of_nonneg ha]
  refine ⟨Int.emod_nonneg _ (by omega), Int.emod_lt_of_pos _ hb, ?_⟩
  have := Int.emod_add_mul_ediv a b
  have h2 : 0 ≤ a / b := Int.ediv_nonneg ha (by omega)
  have h3 : 0 ≤ b * (a / b) := Int.mul_nonneg (by omega) h2
  omega
theorem tdiv_nn (a b : Int) (ha : 0 ≤ a) (hb : 0 < b) : 0 ≤ Int.tdiv a b ∧ Int.tdiv a b ≤ a := by
  rw [Int.tdiv_eq_ediv_of_nonneg ha]
  exact ⟨Int.ediv_nonneg ha (by omega), Int.ediv_le_self _ ha⟩

/-! the reader that the inputs are drawn from -/
theorem xor_small (a b : Int) (ha : 0 ≤ a) (ha' : a < 4611686018427387904) (hb : 0 ≤ b) (hb' : b < 4611686018427387904) :
    0 ≤ Go.bits .xor .i64 a b ∧ Go.bits .xor .i64 a b < 4611686018427387904 := by
  obtain ⟨m, rfl⟩ := Int.eq_ofNat_of_zero_le ha
  obtain ⟨n, rfl⟩ := Int.eq_ofNat_of_zero_le hb
  have hx : m ^^^ n < 2 ^ 62 := Nat.xor_lt_two_pow (by omega) (by omega)
  have h1 : m % 2 ^ 64 = m := Nat.mod_eq_of_lt (by omega)
  have h2 : n % 2 ^ 64 = n := Nat.mod_eq_of_lt (by omega)
  have e : Go.bits .xor .i64 (m : Int) (n : Int) = ((m ^^^ n : Nat) : Int) := by
    have e1 : (BitVec.ofNat 64 m ^^^ BitVec.ofNat 64 n).toNat = m ^^^ n := by
      rw [BitVec.toNat_xor, BitVec.toNat_ofNat, BitVec.toNat_ofNat, h1, h2]
    show Go.IntKind.i64.wrap (((BitVec.ofInt 64 (m : Int) ^^^ BitVec.ofInt 64 (n : Int)).toNat : Nat) : Int) = _
    rw [BitVec.ofInt_natCast, BitVec.ofInt_natCast, e1, Go.IntKind.wrap_i64]; omega
  rw [e]; omega
/-- what is known of the reader's bytes. -/
def Bys (L : List Int) : Prop := L.length ≤ 2000 ∧ ∀ x ∈ L, 0 ≤ x ∧ x ≤ 255
theorem Bys.rd {L : List Int} (h : Bys L) (i : Int) : 0 ≤ rd L i ∧ rd L i ≤ 255 := by
  unfold Go.Proofs.YtfpchmlcifboeaaW.PrintWords.rd
  rw [List.getD_eq_getElem?_getD]
  rcases Nat.lt_or_ge i.toNat L.length with hl | hl
  · rw [List.getElem?_eq_getElem hl]
    exact h.2 _ (List.getElem_mem hl)
  · rw [List.getElem?_eq_none hl]; simp
theorem pick_ev (L : List Int) (hL : Bys L) (p n : Int) (hp : 0 ≤ p) (hp' : p ≤ 1099511627776) (hn : 1 ≤ n) :
    ∃ v, 0 ≤ v ∧ v < n ∧ Ev (fun k => spec_l20Rd_pick.f k L p n) (v, p + 1) := by
  have hlen := hL.1
  have hp1 : wrap64 (p + 1) = p + 1 := w64 (by omega) (by omega)
  have hp2 : wrap64 (p + 1 - 1) = p := by rw [w64 (by omega) (by omega)]; omega
  by_cases h0 : L.length = 0
  · refine ⟨0, by omega, by omega, ?_⟩
    unfold spec_l20Rd_pick.f
    simp only [if_neg (show ¬ n < 1 by omega), hp1]
    refine Ev.step (fun k => by rw [spec_l20Rd_pick.j0]) ?_
    simp only [show ((L.length : Int) == 0) = true by simpa using h0, if_true]
    exact Ev.now _
  · by_cases hlt : p < (L.length : Int)
    · have hr := hL.rd p
      have ht := tmod_nn (rd L p) n hr.1 (by omega)
      refine ⟨_, ht.1, ht.2.1, ?_⟩
      unfold spec_l20Rd_pick.f
      simp only [if_neg (show ¬ n < 1 by omega), hp1]
      refine Ev.step (fun k => by rw [spec_l20Rd_pick.j0]) ?_
      simp only [show ((L.length : Int) == 0) = false by simpa using h0, Bool.false_eq_true, if_false, hp2, if_pos hlt, if_pos hp, if_neg (show ¬ n = 0 by omega), w64 (n := rd L p) (by omega) (by omega)]
      exact Ev.now _
    · have hpos : (0 : Int) < (L.length : Int) := by omega
      have hi1 := tmod_nn p L.length hp hpos
      have hw7 : wrap64 (wrap64 (p * 7) + 3) = p * 7 + 3 := by rw [w64 (n := p * 7) (by omega) (by omega), w64 (by omega) (by omega)]
      have hi2 := tmod_nn (p * 7 + 3) L.length (by omega) hpos
      have hd := tdiv_nn p L.length hp hpos
      have r1 := hL.rd (Int.tmod p L.length)
      have r2 := hL.rd (Int.tmod (p * 7 + 3) L.length)
      have hX : wrap64 (wrap64 (wrap64 (wrap64 (wrap64 (rd L (Int.tmod p L.length)) * 131) + wrap64 (wrap64 (rd L (Int.tmod (p * 7 + 3) L.length)) * 1117)) + wrap64 (p * 29)) + wrap64 (wrap64 (Int.tdiv p L.length) * 53))
          = rd L (Int.tmod p L.length) * 131 + rd L (Int.tmod (p * 7 + 3) L.length) * 1117 + p * 29 + Int.tdiv p L.length * 53 := by
        generalize rd L (Int.tmod p L.length) = a at *
        generalize rd L (Int.tmod (p * 7 + 3) L.length) = b at *
        generalize Int.tdiv p L.length = c at *
        rw [w64 (n := a) (by omega) (by omega), w64 (n := b) (by omega) (by omega), w64 (n := c) (by omega) (by omega), w64 (n := a * 131) (by omega) (by omega), w64 (n := b * 1117) (by omega) (by omega), w64 (n := p * 29) (by omega) (by omega), w64 (n := c * 53) (by omega) (by omega)]
        rw [w64 (n := a * 131 + b * 1117) (by omega) (by omega), w64 (n := a * 131 + b * 1117 + p * 29) (by omega) (by omega), w64 (by omega) (by omega)]
      have hX0 : 0 ≤ rd L (Int.tmod p L.length) * 131 + rd L (Int.tmod (p * 7 + 3) L.length) * 1117 + p * 29 + Int.tdiv p L.length * 53 := by omega
      have hX1 : rd L (Int.tmod p L.length) * 131 + rd L (Int.tmod (p * 7 + 3) L.length) * 1117 + p * 29 + Int.tdiv p L.length * 53 < 4611686018427387904 := by omega
      generalize hXe : rd L (Int.tmod p L.length) * 131 + rd L (Int.tmod (p * 7 + 3) L.length) * 1117 + p * 29 + Int.tdiv p L.length * 53 = X at *
      have hq := tdiv_nn X 64 hX0 (by omega)
      have hx := xor_small X (Int.tdiv X 64) hX0 hX1 hq.1 (by omega)
      have ht := tmod_nn _ n hx.1 (by omega)
      refine ⟨_, ht.1, ht.2.1, ?_⟩
      unfold spec_l20Rd_pick.f
      simp only [if_neg (show ¬ n < 1 by omega), hp1]
      refine Ev.step (fun k => by rw [spec_l20Rd_pick.j0]) ?_
      simp only [show ((L.length : Int) == 0) = false by simpa using h0, Bool.false_eq_true, if_false, hp2, if_neg hlt, if_neg (show ¬ (L.length : Int) = 0 by omega), if_neg (show ¬ n = 0 by omega),
        if_pos hi1.1, if_pos hi1.2.1, hw7, if_pos hi2.1, if_pos hi2.2.1, hX, w64 (n := Int.tdiv X 64) (by omega) (by omega)]
      exact Ev.now _
theorem odd_ev (L : List Int) (hL : Bys L) (p n : Int) (hp : 0 ≤ p) (hp' : p ≤ 1099511627776) (hn : 0 ≤ n) (hn' : n ≤ 1000000) :
    ∃ b q, p ≤ q ∧ q ≤ p + 1 ∧ Ev (fun k => spec_l20Rd_odd.f k L p n) (b, q) := by
  unfold spec_l20Rd_odd.f
  by_cases h : n > 0
  · obtain ⟨v, h0, h1, hv⟩ := pick_ev L hL p n hp hp' (by omega)
    refine ⟨(v == wrap64 (n - 1)), p + 1, by omega, by omega, ?_⟩
    simp only [if_pos h]
    exact ev_bind hv (Ev.now _)
  · refine ⟨false, p, by omega, by omega, ?_⟩
    simp only [if_neg h]
    exact Ev.now _
theorem open_ev (l : List Int) (hw : ∀ x ∈ l, (Lit.int .u8 x).wf = true) : ∃ L, Bys L ∧ spec_l20Open.f l = some (L, 0) := by
  have hr : ∀ x ∈ l, 0 ≤ x ∧ x ≤ 255 := by
    intro x hx
    have := hw x hx
    simp [Lit.wf, IntKind.min, IntKind.max, IntKind.signed, IntKind.bits] at this
    omega
  unfold spec_l20Open.f
  by_cases h : (l.length : Int) > 2000
  · refine ⟨l.take 2000, ⟨by simp; omega, fun x hx => hr x (List.mem_of_mem_take hx)⟩, ?_⟩
    rw [if_pos h, if_pos (by omega)]
  · refine ⟨l, ⟨by omega, hr⟩, ?_⟩
    rw [if_neg h]

/-- from some number of rounds on the answer is one that P holds of. -/
def EvP {α : Type} (g : Nat → Option α) (P : α → Prop) : Prop := ∃ r, P r ∧ Ev g r
theorem EvP.now {α : Type} {P : α → Prop} {r : α} (h : P r) : EvP (fun _ => some r) P := ⟨r, h, Ev.now r⟩
theorem EvP.bind {α β : Type} {g : Nat → Option α} {f : Nat → α → Option β} {P : α → Prop} {Q : β → Prop} (h : EvP g P) (k : ∀ a, P a → EvP (fun n => f n a) Q) :
    EvP (fun n => (g n).bind (fun x => f n x)) Q := by
  obtain ⟨a, ha, he⟩ := h
  obtain ⟨b, hb, hf⟩ := k a ha
  exact ⟨b, hb, ev_bind he hf⟩
theorem EvP.step {α : Type} {g f : Nat → Option α} {P : α → Prop} (h : ∀ k, g (k + 1) = f k) (k : EvP f P) : EvP g P := by
  obtain ⟨r, hr, he⟩ := k
  exact ⟨r, hr, Ev.step h he⟩
theorem EvP.mono {α : Type} {g : Nat → Option α} {P Q : α → Prop} (h : EvP g P) (k : ∀ r, P r → Q r) : EvP g Q := by
  obtain ⟨r, hr, he⟩ := h
  exact ⟨r, k r hr, he⟩
theorem EvP.of_ev {α : Type} {g : Nat → Option α} {P : α → Prop} {r : α} (h : Ev g r) (hp : P r) : EvP g P := ⟨r, hp, h⟩
theorem pick_p (L : List Int) (hL : Bys L) (p n : Int) (hp : 0 ≤ p) (hp' : p ≤ 1099511627776) (hn : 1 ≤ n) :
    EvP (fun k => spec_l20Rd_pick.f k L p n) (fun r => 0 ≤ r.1 ∧ r.1 < n ∧ r.2 = p + 1) := by
  obtain ⟨v, h0, h1, he⟩ := pick_ev L hL p n hp hp' hn
  exact ⟨_, ⟨h0, h1, rfl⟩, he⟩
theorem odd_p (L : List Int) (hL : Bys L) (p n : Int) (hp : 0 ≤ p) (hp' : p ≤ 1099511627776) (hn : 0 ≤ n) (hn' : n ≤ 1000000) :
    EvP (fun k => spec_l20Rd_odd.f k L p n) (fun r => p ≤ r.2 ∧ r.2 ≤ p + 1) := by
  obtain ⟨b, q, h0, h1, he⟩ := odd_ev L hL p n hp hp' hn hn'
  exact ⟨_, ⟨h0, h1⟩, he⟩
theorem rd_all {P : Int → Prop} (ys : List Int) (h : ∀ y ∈ ys, P y) (i : Int) (h0 : 0 ≤ i) (hi : i < (ys.length : Int)) : P (rd ys i) := by
  unfold Go.Proofs.YtfpchmlcifboeaaW.PrintWords.rd
  have hl : i.toNat < ys.length := by omega
  rw [List.getD_eq_getElem?_getD, List.getElem?_eq_getElem hl]
  exact h _ (List.getElem_mem hl)

theorem rdOf_small (ys : List ByteArray) (b : Nat) (h : ∀ y ∈ ys, y.size ≤ b) (i : Int) : (rdOf ByteArray.empty ys i).size ≤ b := by
  unfold rdOf
  rw [List.getD_eq_getElem?_getD]
  rcases Nat.lt_or_ge i.toNat ys.length with hl | hl
  · rw [List.getElem?_eq_getElem hl]
    exact h _ (List.getElem_mem hl)
  · rw [List.getElem?_eq_none hl]; show 0 ≤ b; omega

def cpart : List ByteArray := [(⟨#[97]⟩ : ByteArray), (⟨#[32]⟩ : ByteArray), (⟨#[49, 50]⟩ : ByteArray), (⟨#[49, 46, 53]⟩ : ByteArray), (⟨#[34, 120, 34]⟩ : ByteArray), (⟨#[34, 92, 34, 34]⟩ : ByteArray), (⟨#[60, 61]⟩ : ByteArray), (⟨#[33, 61]⟩ : ByteArray), (⟨#[38, 38]⟩ : ByteArray), (⟨#[124, 124]⟩ : ByteArray), (⟨#[40]⟩ : ByteArray), (⟨#[41]⟩ : ByteArray), (⟨#[91]⟩ : ByteArray), (⟨#[93]⟩ : ByteArray), (⟨#[44]⟩ : ByteArray), (⟨#[63]⟩ : ByteArray), (⟨#[58]⟩ : ByteArray), (⟨#[45]⟩ : ByteArray), (⟨#[33]⟩ : ByteArray), (⟨#[37]⟩ : ByteArray), (⟨#[98, 46, 99]⟩ : ByteArray), (⟨#[60]⟩ : ByteArray)]
def cbad : List ByteArray := [(⟨#[34]⟩ : ByteArray), (⟨#[38]⟩ : ByteArray), (⟨#[61]⟩ : ByteArray), (⟨#[35]⟩ : ByteArray), (⟨#[123]⟩ : ByteArray), (⟨#[65]⟩ : ByteArray), (⟨#[10]⟩ : ByteArray), (⟨#[34, 92]⟩ : ByteArray)]
theorem code_l (L : List Int) (hL : Bys L) : ∀ (j : Nat) (p : Int) (o : ByteArray), 0 ≤ p → p + j ≤ 1000000 → o.size + 4 * j ≤ 1000000 →
    EvP (fun k => spec_l20Code.l0 k o (j : Int) L p) (fun r => r.1.size ≤ o.size + 4 * j + 2 ∧ p ≤ r.2 ∧ r.2 ≤ p + j + 2) := by
  intro j
  induction j with
  | zero =>
    intro p o hp hpj hoj
    refine EvP.step (fun k => by rw [spec_l20Code.l0]) ?_
    simp only [if_neg (show ¬ ((0 : Nat) : Int) > 0 by omega)]
    refine EvP.bind (odd_p L hL p 6 hp (by omega) (by omega) (by omega)) ?_
    rintro ⟨b, q⟩ ⟨h1, h2⟩
    simp only at h1 h2 ⊢
    cases b with
    | false =>
      simp only [Bool.false_eq_true, if_false]
      exact EvP.now ⟨by simp only; omega, by simp only; omega, by simp only; omega⟩
    | true =>
      simp only [if_true, Option.bind_some]
      refine EvP.bind (pick_p L hL q 8 (by omega) (by omega) (by omega)) ?_
      rintro ⟨v, q2⟩ ⟨h3, h4, h5⟩
      simp only at h3 h4 h5 ⊢
      have hz := rdOf_small cbad 2 (by decide) v
      simp only [if_pos h3, List.length_cons, List.length_nil]
      simp only [if_pos (show v < ((0 + 1 + 1 + 1 + 1 + 1 + 1 + 1 + 1 : Nat) : Int) by omega)]
      show EvP (fun k => if o.size + (rdOf ByteArray.empty cbad v).size ≤ 9223372036854775807 then some (o ++ rdOf ByteArray.empty cbad v, q2) else none) _
      simp only [if_pos (show o.size + (rdOf ByteArray.empty cbad v).size ≤ 9223372036854775807 by omega)]
      exact EvP.now ⟨by simp only [ByteArray.size_append]; omega, by simp only; omega, by simp only; omega⟩
  | succ j ih =>
    intro p o hp hpj hoj
    refine EvP.step (fun k => by rw [spec_l20Code.l0]) ?_
    simp only [if_pos (show ((j + 1 : Nat) : Int) > 0 by omega), Option.bind_some]
    refine EvP.bind (pick_p L hL p 22 (by omega) (by omega) (by omega)) ?_
    rintro ⟨v, q2⟩ ⟨h3, h4, h5⟩
    simp only at h3 h4 h5 ⊢
    have hz := rdOf_small cpart 4 (by decide) v
    simp only [if_pos h3, List.length_cons, List.length_nil, show wrap64 (((j + 1 : Nat) : Int) - 1) = (j : Int) by rw [w64 (by omega) (by omega)]; omega]
    simp only [if_pos (show v < ((0 + 1 + 1 + 1 + 1 + 1 + 1 + 1 + 1 + 1 + 1 + 1 + 1 + 1 + 1 + 1 + 1 + 1 + 1 + 1 + 1 + 1 + 1 : Nat) : Int) by omega)]
    show EvP (fun k => if o.size + (rdOf ByteArray.empty cpart v).size ≤ 9223372036854775807 then spec_l20Code.l0 k (o ++ rdOf ByteArray.empty cpart v) (j : Int) L q2 else none) _
    simp only [if_pos (show o.size + (rdOf ByteArray.empty cpart v).size ≤ 9223372036854775807 by omega)]
    have hs : (o ++ rdOf ByteArray.empty cpart v).size = o.size + (rdOf ByteArray.empty cpart v).size := ByteArray.size_append
    refine EvP.mono (ih q2 (o ++ rdOf ByteArray.empty cpart v) (by omega) (by omega) (by omega)) ?_
    rintro ⟨R, q3⟩ ⟨g1, g2, g3⟩
    simp only at g1 g2 g3 ⊢
    omega
theorem code_p (L : List Int) (hL : Bys L) (p : Int) (hp : 0 ≤ p) (hp' : p ≤ 1000) :
    EvP (fun k => spec_l20Code.f k L p) (fun r => r.1.size ≤ 30 ∧ p ≤ r.2 ∧ r.2 ≤ p + 20) := by
  unfold spec_l20Code.f
  refine EvP.bind (pick_p L hL p 8 hp (by omega) (by omega)) ?_
  rintro ⟨v, q⟩ ⟨h1, h2, h3⟩
  simp only at h1 h2 h3 ⊢
  obtain ⟨j, rfl⟩ := Int.eq_ofNat_of_zero_le h1
  have h0 : (⟨#[]⟩ : ByteArray).size = 0 := rfl
  refine EvP.mono (code_l L hL j q (⟨#[]⟩ : ByteArray) (by omega) (by omega) (by omega)) ?_
  rintro ⟨R, q3⟩ ⟨g1, g2, g3⟩
  simp only at g1 g2 g3 ⊢
  omega
theorem drawToks (l : List Int) (hw : ∀ x ∈ l, (Lit.int .u8 x).wf = true) : EvP (fun k => spec_DrawTokensOf.f k l) (fun r => r.size ≤ 30) := by
  obtain ⟨L, hL, hop⟩ := open_ev l hw
  unfold spec_DrawTokensOf.f
  rw [hop]
  simp only [Option.bind_some]
  refine EvP.bind (code_p L hL 0 (by omega) (by omega)) ?_
  rintro ⟨s, q⟩ ⟨h1, _, _⟩
  exact EvP.now h1

theorem alive_ev : Ev (fun k => laws_alive.f k) true := by
  unfold laws_alive.f
  refine ev_bind (impl_tv (⟨#[97]⟩ : ByteArray) (by decide)) ?_
  have : tv (bytesOf (⟨#[97]⟩ : ByteArray)) = true := by decide
  rw [this]
  exact Ev.now _

theorem rdT0 (p : Int × Nat × Nat) : rd_T33 [tk p] 0 = tk p := rfl
theorem lt2 (s : ByteArray) (hs : s.size ≤ 1048576) : ∀ (d i : Nat), i + d = s.size → (∀ j, i ≤ j → j < (bytesOf s).length → (bytesOf s).getD j 0 = 32) → Ev (fun k => laws_FnTokensOf.l2 k s (i : Int)) true := by
  intro d
  induction d with
  | zero =>
    intro i hi h
    refine Ev.step (fun k => by rw [laws_FnTokensOf.l2]) ?_
    simp only [if_neg (show ¬ (i : Int) < (s.size : Int) by omega)]
    exact Ev.now _
  | succ d ih =>
    intro i hi h
    have h1 := ih (i + 1) (by omega) (fun j a b => h j (by omega) b)
    refine Ev.step (fun k => by rw [laws_FnTokensOf.l2]) ?_
    simp only [if_pos (show (i : Int) < (s.size : Int) by omega), if_pos (show (0 : Int) ≤ (i : Int) by omega), bt_nat, h i (Nat.le_refl _) (by rw [bytesOf_length]; omega), if_true, w64s (show i + 1 < 9223372036854775808 by omega)]
    exact h1
theorem lt1 (s : ByteArray) (hs : s.size ≤ 1048576) (T : List S33) (j : Nat) (hj : j < T.length) (f : Nat) (hf : f ≤ s.size) (e1 : (rd_T33 T (j : Int)).f1 = (f : Int))
    (end_ : Ev (fun k => laws_FnTokensOf.l1 k s T T (j : Int) (f : Int)) true) :
    ∀ (d i : Nat), i + d = f → (∀ j, i ≤ j → j < f → (bytesOf s).getD j 0 = 32) → Ev (fun k => laws_FnTokensOf.l1 k s T T (j : Int) (i : Int)) true := by
  intro d
  induction d with
  | zero =>
    intro i hi h
    obtain rfl : i = f := by omega
    exact end_
  | succ d ih =>
    intro i hi h
    have h1 := ih (i + 1) (by omega) (fun j a b => h j (by omega) b)
    refine Ev.step (fun k => by rw [laws_FnTokensOf.l1]) ?_
    simp only [e1, if_pos (show (0 : Int) ≤ (j : Int) by omega), if_pos (show (j : Int) < (T.length : Int) by omega), if_pos (show (i : Int) < (f : Int) by omega), if_pos (show (0 : Int) ≤ (i : Int) by omega), if_pos (show (i : Int) < (s.size : Int) by omega),
      bt_nat, h i (Nat.le_refl _) (by omega), if_true, w64s (show i + 1 < 9223372036854775808 by omega)]
    exact h1
theorem lt0 (s : ByteArray) (hs : s.size ≤ 1048576) (hv : tv (bytesOf s) = true) (hn : (bytesOf s).contains 10 = false) (ts : List (Int × Nat × Nat)) (hts : ∀ p ∈ ts, p.2.1 < p.2.2 ∧ p.2.2 ≤ s.size) (hl : ts.length ≤ s.size) :
    ∀ (r : List (Int × Nat × Nat)) (j e : Nat), ts.drop j = r → j ≤ ts.length → e ≤ s.size → spOrd (bytesOf s) e r → Ev (fun k => laws_FnTokensOf.l0 k s (ts.map tk) (ts.map tk) (e : Int) (j : Int)) true := by
  intro r
  induction r with
  | nil =>
    intro j e hd hj he hsp
    have hn := List.drop_eq_nil_iff.1 hd
    refine Ev.step (fun k => by rw [laws_FnTokensOf.l0]) ?_
    simp only [List.length_map, if_neg (show ¬ (j : Int) < (ts.length : Int) by omega)]
    exact lt2 s hs (s.size - e) e (by omega) hsp
  | cons p r ih =>
    intro j e hd hj he hsp
    obtain ⟨hg, hr, hlt⟩ := drop_get hd
    obtain ⟨g1, g2, ⟨n, g3, g4⟩, g5, g6⟩ := hsp
    have hp := hts p (List.mem_of_getElem? hg)
    have e0 := rdT_map ts j p hg
    have h1 := ih (j + 1) p.2.2 hr (by omega) hp.2 g6
    have f0 : (tk p).f0 = p.1 := rfl
    have f1 : (tk p).f1 = (p.2.1 : Int) := rfl
    have f2 : (tk p).f2 = (p.2.2 : Int) := rfl
    have hend : Ev (fun k => laws_FnTokensOf.l1 k s (ts.map tk) (ts.map tk) (j : Int) (p.2.1 : Int)) true := by
      refine Ev.step (fun k => by rw [laws_FnTokensOf.l1]) ?_
      simp only [e0, f0, f1, f2, List.length_map, if_pos (show (0 : Int) ≤ (j : Int) by omega), if_pos (show (j : Int) < (ts.length : Int) by omega), if_neg (show ¬ (p.2.1 : Int) < (p.2.1 : Int) by omega),
        if_pos (show (0 : Int) ≤ (p.2.1 : Int) by omega), if_pos (show (p.2.1 : Int) ≤ (p.2.2 : Int) by omega), if_pos (show (p.2.2 : Int) ≤ (s.size : Int) by omega), Int.toNat_natCast]
      refine ev_bind (impl_toks (s.extract p.2.1 p.2.2) (by rw [ByteArray.size_extract]; omega)) ?_
      rw [bytesOf_cut, g4, toksOf_part hv hn g3 g5]
      simp only [tokR, List.nil_append, List.map_cons, List.map_nil, if_true, List.length_cons, List.length_nil, rdT0]
      simp only [Nat.zero_add, Int.natCast_one, if_true, if_pos (show (0 : Int) < 1 by omega), if_pos (show (tk (p.1, 0, n)).f0 = p.1 from rfl), w64s (show j + 1 < 9223372036854775808 by omega)]
      rw [← g4]
      exact h1
    have h2 := lt1 s hs (ts.map tk) j (by rw [List.length_map]; omega) p.2.1 (by omega) (by rw [e0]; rfl) hend (p.2.1 - e) e (by omega) g2
    refine Ev.step (fun k => by rw [laws_FnTokensOf.l0]) ?_
    simp only [e0, f0, f1, f2, List.length_map, if_pos (show (j : Int) < (ts.length : Int) by omega), if_pos (show (0 : Int) ≤ (j : Int) by omega), beq_self_eq_true, Bool.not_true, Bool.or_self, Bool.false_eq_true, if_false,
      if_neg (show ¬ (p.2.1 : Int) < (e : Int) by omega), if_neg (show ¬ (p.2.2 : Int) ≤ (p.2.1 : Int) by omega), decide_eq_false (show ¬ (p.2.2 : Int) > (s.size : Int) by omega)]
    refine Ev.step (fun k => by rw [laws_FnTokensOf.j2]) ?_
    simp only [Bool.false_eq_true, if_false]
    exact h2
theorem FnTokensOf : laws_FnTokensOf.Pure := by
  intro l _ _ hw
  apply Ev.rounds
  unfold laws_FnTokensOf.f
  by_cases h : (l.length : Int) > 1048576
  · simp only [if_pos h]; exact Ev.now _
  · simp only [if_neg h]
    obtain ⟨s, hs, hd⟩ := drawToks l hw
    refine ev_bind hd (ev_bind (impl_toks s (by omega)) (ev_bind (spec_toks s (by omega)) ?_))
    simp only [if_true, bne_self_eq_false]
    refine Ev.step (fun k => by rw [laws_FnTokensOf.j0]) ?_
    simp only [Bool.false_eq_true, if_false]
    cases ht : toksOf (bytesOf s) with
    | none =>
      simp only [tokR, Bool.false_eq_true, if_false, List.length_nil, Int.natCast_zero, if_true]
      exact ev_bind alive_ev (Ev.now _)
    | some ts =>
      obtain ⟨hv, hn, hk⟩ := toksOf_some ht
      have hin := toksOf_in ht
      have hlen := toksOf_len ht
      rw [bytesOf_length] at hin hlen
      simp only [tokR, List.nil_append, if_true]
      exact lt0 s (by omega) hv hn ts hin hlen ts 0 0 rfl (by omega) (by omega) (toks_sp _ _ _ 0 ts (Nat.le_refl _) rfl hk)

end Go.Proofs.Ytfpchmlcifboeaa.Pure
namespace Go.Proofs.Ytfpchmlcifboeaa.PrintWords
/-- The word that the printed row names: a slice of whole numbers is no longer than its weight allows. -/
theorem sized_ints {H : Type} {enc : TypeId × Value → H} {P : Program} {W : World} {base : Nat} {spare : Nat → Bool} {held : Bool} {t e : TypeId} {k : IntKind} {a : Option Addr} {len cap : Nat} {d : DataW H} {ps : List MemPlace} {ts : List TypeId} {ds : List (DataW H)} {j : Nat}
    (hsz : (DataW.weightsEach P ts ds).all (· ≤ reachBytes) = true) (ht : ts[j]? = some t) (hd : ds[j]? = some d) (hu : P.underlying t = some (.slice e)) (he : P.underlying e = some (.int k)) (hc : P.cellsOf e = 1) {B : Nat} (hB : P.bytesOf e = B)
    (h : DataW.Trod enc P W base spare held t (.slice a len cap) d ps) : len * B ≤ 140737488351232 :=
  Go.Proofs.YtfpchmlcifboeaaW.PrintWords.sized_ints hsz ht hd hu he hc hB h
end Go.Proofs.Ytfpchmlcifboeaa.PrintWords
