/- The pure statement of the law FnNameValid holds: for every input that meets the bounds in the statement, the printed function of the law, given enough rounds, answers true. -/
import Derived.Test.YteloagahkphiaaaDoorPLinesx7
import Derived.Test.YteloagahkphiaaaDoorWSized
namespace Go.Proofs.YteloagahkphiaaaDoor.Pure
open Go.RowKit Go.Proofs.YteloagahkphiaaaDoor.PLines Go.Proofs.YteloagahkphiaaaDoorW.PrintWords Go.Proofs.YteloagahkphiaaaDoorW.PrintLast Go.Proofs.YteloagahkphiaaaDoorW.PrintMore Go.Proofs.YteloagahkphiaaaDoor.Hand
set_option linter.unusedVariables false
set_option linter.unusedSimpArgs false

theorem w64 {n : Int} (h0 : -9223372036854775808 ≤ n) (h1 : n < 9223372036854775808) : wrap64 n = n := by
  unfold wrap64; omega
theorem w64n {n : Nat} (h1 : n < 9223372036854775808) : wrap64 (n : Int) = (n : Int) := w64 (by omega) (by omega)
theorem w64s {n : Nat} (h1 : n + 1 < 9223372036854775808) : wrap64 ((n : Int) + 1) = ((n + 1 : Nat) : Int) := by
  rw [w64 (by omega) (by omega)]; rfl
theorem ev_const {α : Type} {g : Nat → Option α} {r : α} (h : ∀ k, g k = some r) : Ev g r := ⟨0, fun k _ => h k⟩
theorem ev_bind {α β : Type} {g : Nat → Option α} {f : Nat → α → Option β} {a : α} {r : β} (h : Ev g a) (k : Ev (fun n => f n a) r) :
    Ev (fun n => (g n).bind (fun x => f n x)) r := Ev.bind h k
theorem bt_nat (s : ByteArray) (i : Nat) : bt s (i : Int) = (bytesOf s).getD i 0 := by
  rw [← rd_bytesOf]; simp [rd]
theorem drop_cons (l : List Int) (i : Nat) (h : i < l.length) : l.drop i = l.getD i 0 :: l.drop (i + 1) := by
  rw [List.drop_eq_getElem_cons h]; simp [List.getD_eq_getElem?_getD, h]
theorem bytesOf_range (s : ByteArray) : ∀ x ∈ bytesOf s, 0 ≤ x ∧ x ≤ 255 := by
  intro x hx
  unfold bytesOf at hx
  obtain ⟨b, _, rfl⟩ := List.mem_map.1 hx
  have := b.toNat_lt
  omega
theorem getD_range (s : ByteArray) (i : Nat) : 0 ≤ (bytesOf s).getD i 0 ∧ (bytesOf s).getD i 0 ≤ 255 := by
  rw [← bt_nat]; exact bt_range _ _
theorem map_byte_inj : ∀ (a b : List UInt8), a.map (fun b => (b.toNat : Int)) = b.map (fun b => (b.toNat : Int)) → a = b
  | [], [], _ => rfl
  | [], _ :: _, h => by simp at h
  | _ :: _, [], h => by simp at h
  | x :: a, y :: b, h => by
    simp only [List.map_cons, List.cons.injEq] at h
    have h1 : x = y := UInt8.toNat_inj.1 (by omega)
    rw [h1, map_byte_inj a b h.2]
theorem bytesOf_inj {a b : ByteArray} (h : bytesOf a = bytesOf b) : a = b := by
  have := map_byte_inj _ _ h
  apply ByteArray.ext
  exact Array.toList_inj.1 this
theorem bytesOf_app (a b : ByteArray) : bytesOf (a ++ b) = bytesOf a ++ bytesOf b := by
  unfold bytesOf
  rw [ByteArray.data_append]; simp
theorem bytesOf_cut (s : ByteArray) (i j : Nat) : bytesOf (s.extract i j) = ((bytesOf s).take j).drop i := by
  unfold bytesOf
  rw [ByteArray.data_extract]
  simp [List.drop_take]
theorem bytesOf_str (xs : List Int) (h : ∀ x ∈ xs, 0 ≤ x ∧ x ≤ 255) : bytesOf (strOfNums xs) = xs := by
  unfold bytesOf strOfNums
  simp only [List.map_map]
  conv => rhs; rw [← List.map_id xs]
  apply List.map_congr_left
  intro x hx
  have := h x hx
  have e : x.toNat % 256 = x.toNat := Nat.mod_eq_of_lt (by omega)
  simp only [Function.comp, UInt8.toNat_ofNat', id]
  omega
theorem str_bytes (s : ByteArray) : strOfNums (bytesOf s) = s :=
  bytesOf_inj (bytesOf_str _ (bytesOf_range s))
theorem toList_data (a : ByteArray) : a.toList = a.data.toList := ByteArray.toList_eq a
theorem toList_iff {a b : ByteArray} : a.toList = b.toList ↔ bytesOf a = bytesOf b := by
  constructor
  · intro h
    unfold bytesOf
    rw [← toList_data, ← toList_data, h]
  · intro h
    rw [bytesOf_inj h]
theorem size_bytes (s : ByteArray) : s.size = (bytesOf s).length := (bytesOf_length s).symm

theorem index_mem (c : UInt8) : ∀ l : List UInt8, (0 ≤ Lib.indexByte l c) ↔ c ∈ l
  | [] => by simp [Lib.indexByte]
  | b :: l => by
    have ih := index_mem c l
    have hg := Lib.indexByte_ge l c
    rw [Lib.indexByte]
    by_cases h : (b == c) = true
    · rw [if_pos h]
      have := eq_of_beq h
      subst this
      simp
    · rw [if_neg h]
      have hne : ¬ c = b := fun e => h (by rw [e]; exact beq_self_eq_true _)
      by_cases h2 : (Lib.indexByte l c == -1) = true
      · rw [if_pos h2]
        have e := eq_of_beq h2
        rw [e] at ih
        simp only [List.mem_cons, hne, false_or]
        constructor
        · intro h; omega
        · intro h; have := ih.2 h; omega
      · rw [if_neg h2]
        have e : Lib.indexByte l c ≠ -1 := fun e => h2 (by rw [e]; rfl)
        simp only [List.mem_cons, hne, false_or]
        constructor
        · intro h; exact ih.1 (by omega)
        · intro h; have := ih.2 h; omega
theorem mem_bytes (s : ByteArray) (c : UInt8) : c ∈ s.data.toList ↔ (bytesOf s).contains (c.toNat : Int) = true := by
  unfold bytesOf
  rw [List.contains_iff_mem]
  constructor
  · intro h; exact List.mem_map.2 ⟨c, h, rfl⟩
  · intro h
    obtain ⟨b, hb, e⟩ := List.mem_map.1 h
    have : b = c := UInt8.toNat_inj.1 (by omega)
    rw [← this]; exact hb

theorem rdOf_nat {α : Type} (d : α) (l : List α) (j : Nat) : rdOf d l (j : Int) = l.getD j d := by unfold rdOf; rw [Int.toNat_natCast]

/-! splitting at one byte -/
def splitA (c : Int) : List Int → List Int → List (List Int)
  | cur, [] => [cur]
  | cur, x :: l => if x = c then cur :: splitA c [] l else splitA c (cur ++ [x]) l
theorem splitA_ne (c : Int) : ∀ (l cur : List Int), ∃ p ps, splitA c cur l = p :: ps
  | [], cur => ⟨cur, [], rfl⟩
  | x :: l, cur => by
    rw [splitA]
    by_cases h : x = c
    · rw [if_pos h]; exact ⟨_, _, rfl⟩
    · rw [if_neg h]; exact splitA_ne c l _
/-- how many bytes there are ahead of the first one that is c. -/
def fst (c : Int) : List Int → Nat
  | [] => 0
  | x :: l => if x = c then 0 else fst c l + 1
def cnt (c : Int) : List Int → Nat
  | [] => 0
  | x :: l => if x = c then cnt c l + 1 else cnt c l
theorem cnt_le (c : Int) : ∀ l : List Int, cnt c l ≤ l.length
  | [] => Nat.le_refl _
  | x :: l => by
    have := cnt_le c l
    rw [cnt, List.length_cons]
    split <;> omega
theorem fst_lt (c : Int) : ∀ l : List Int, 1 ≤ cnt c l → fst c l < l.length
  | [], h => by simp [cnt] at h
  | x :: l, h => by
    rw [fst, List.length_cons]
    by_cases hx : x = c
    · rw [if_pos hx]; omega
    · rw [if_neg hx]
      rw [cnt, if_neg hx] at h
      have := fst_lt c l h
      omega
theorem cnt_drop (c : Int) : ∀ l : List Int, 1 ≤ cnt c l → cnt c (l.drop (fst c l + 1)) + 1 = cnt c l
  | [], h => by simp [cnt] at h
  | x :: l, h => by
    by_cases hx : x = c
    · rw [fst, if_pos hx, cnt, if_pos hx]; rfl
    · rw [cnt, if_neg hx] at h ⊢
      rw [fst, if_neg hx, List.drop_succ_cons]
      exact cnt_drop c l h
theorem splitA_none (c : Int) : ∀ (l cur : List Int), cnt c l = 0 → splitA c cur l = [cur ++ l]
  | [], cur, _ => by rw [splitA, List.append_nil]
  | x :: l, cur, h => by
    rw [cnt] at h
    by_cases hx : x = c
    · rw [if_pos hx] at h; omega
    · rw [if_neg hx] at h
      rw [splitA, if_neg hx, splitA_none c l _ h, List.append_assoc]; rfl
theorem splitA_some (c : Int) : ∀ (l cur : List Int), 1 ≤ cnt c l → splitA c cur l = (cur ++ l.take (fst c l)) :: splitA c [] (l.drop (fst c l + 1))
  | [], cur, h => by simp [cnt] at h
  | x :: l, cur, h => by
    by_cases hx : x = c
    · rw [splitA, if_pos hx, fst, if_pos hx]; simp
    · rw [cnt, if_neg hx] at h
      rw [splitA, if_neg hx, splitA_some c l _ h, fst, if_neg hx, List.take_succ_cons, List.drop_succ_cons, List.append_assoc]; rfl
theorem index_fst (c : UInt8) : ∀ l : List UInt8, 1 ≤ cnt (c.toNat : Int) (l.map fun b => (b.toNat : Int)) → Lib.indexByte l c = (fst (c.toNat : Int) (l.map fun b => (b.toNat : Int)) : Int)
  | [], h => by simp [cnt] at h
  | b :: l, h => by
    rw [Lib.indexByte, List.map_cons, fst]
    rw [List.map_cons, cnt] at h
    by_cases hb : (b == c) = true
    · have e := eq_of_beq hb
      rw [if_pos hb, if_pos (by rw [e])]; rfl
    · have hne : ¬ ((b.toNat : Int) = (c.toNat : Int)) := fun e => hb (by rw [UInt8.toNat_inj.1 (show b.toNat = c.toNat by omega)]; exact beq_self_eq_true _)
      rw [if_neg hne] at h
      have ih := index_fst c l h
      rw [if_neg hb, if_neg hne]
      have hm : ¬ ((Lib.indexByte l c == -1) = true) := by
        rw [ih]; intro e
        have := eq_of_beq e
        omega
      rw [if_neg hm, ih]; omega
theorem count_cnt (c : UInt8) : ∀ l : List UInt8, (Lib.countByte l c : Nat) = cnt (c.toNat : Int) (l.map fun b => (b.toNat : Int))
  | [] => rfl
  | b :: l => by
    have ih := count_cnt c l
    rw [List.map_cons, cnt, ← ih]
    unfold Lib.countByte
    by_cases hb : b = c
    · rw [if_pos (by rw [hb]), hb]; simp
    · have hne : ¬ ((b.toNat : Int) = (c.toNat : Int)) := fun e => hb (UInt8.toNat_inj.1 (show b.toNat = c.toNat by omega))
      rw [if_neg hne]; simp [hb]
theorem index_zero (c : UInt8) (l : List UInt8) (h : cnt (c.toNat : Int) (l.map fun b => (b.toNat : Int)) = 0) : Lib.indexByte l c < 0 := by
  rcases Int.lt_or_le (Lib.indexByte l c) 0 with h1 | h1
  · exact h1
  · have := (index_mem c l).1 h1
    have : ∀ l : List UInt8, c ∈ l → 1 ≤ cnt (c.toNat : Int) (l.map fun b => (b.toNat : Int)) := by
      intro l
      induction l with
      | nil => intro h; cases h
      | cons b l ih =>
        intro h
        rw [List.map_cons, cnt]
        by_cases hb : (b.toNat : Int) = (c.toNat : Int)
        · rw [if_pos hb]; omega
        · rw [if_neg hb]
          rcases List.mem_cons.1 h with e | h
          · exact absurd (by rw [e]) hb
          · exact ih h
    have := this l ‹c ∈ l›
    omega
/-- the parts of a text. -/
def splitS (c : Int) : Nat → ByteArray → List ByteArray
  | 0, s => [s]
  | n + 1, s => s.extract 0 (fst c (bytesOf s)) :: splitS c n (s.extract (fst c (bytesOf s) + 1) s.size)
theorem bytesOf_rest (s : ByteArray) (i : Nat) : bytesOf (s.extract i s.size) = (bytesOf s).drop i := by
  rw [bytesOf_cut, List.take_of_length_le (by rw [bytesOf_length]; exact Nat.le_refl _)]
theorem splitS_bytes (c : Int) : ∀ (n : Nat) (s : ByteArray), cnt c (bytesOf s) = n → (splitS c n s).map bytesOf = splitA c [] (bytesOf s)
  | 0, s, h => by rw [splitA_none c _ _ h]; rfl
  | n + 1, s, h => by
    rw [splitA_some c _ _ (by omega), splitS, List.map_cons, splitS_bytes c n _ (by rw [bytesOf_rest]; have := cnt_drop c (bytesOf s) (by omega); omega), bytesOf_rest, bytesOf_cut]
    rfl
theorem splitS_len (c : Int) : ∀ (n : Nat) (s : ByteArray), (splitS c n s).length = n + 1
  | 0, _ => rfl
  | n + 1, s => by rw [splitS, List.length_cons, splitS_len c n]
theorem split_l (s0 sep : ByteArray) (c : UInt8) (hsep : sep = (⟨#[c]⟩ : ByteArray)) (a2 : Int) (h2 : a2 = 0) (N : Nat) (hN : N ≤ 1099511627776) : ∀ (n : Nat) (s : ByteArray) (pre : List ByteArray), pre.length + n = N → cnt (c.toNat : Int) (bytesOf s) = n → s.size ≤ 1099511627776 →
    Ev (fun k => strings_genSplit.l0 k s sep a2 (N : Int) (pre ++ List.replicate (n + 1) (⟨#[]⟩ : ByteArray)) (pre.length : Int)) (pre ++ splitS (c.toNat : Int) n s) := by
  have hone : sep.size = 1 := by rw [hsep]; rfl
  have hget : sep.data.toList.getD 0 0 = c := by rw [hsep]; rfl
  have hset : ∀ (pre R : List ByteArray) (u v : ByteArray), (pre ++ u :: R).set pre.length v = pre ++ v :: R := by
    intro pre R u v
    rw [List.set_append_right _ _ (Nat.le_refl _), Nat.sub_self]; rfl
  intro n
  induction n with
  | zero =>
    intro s pre hp hc hs
    have hlen : (pre ++ List.replicate (0 + 1) (⟨#[]⟩ : ByteArray)).length = pre.length + 1 := by simp
    refine Ev.step (fun k => by rw [strings_genSplit.l0]) ?_
    have e1 : pre ++ List.replicate (0 + 1) (⟨#[]⟩ : ByteArray) = pre ++ (⟨#[]⟩ : ByteArray) :: [] := rfl
    simp only [hlen, if_neg (show ¬ (pre.length : Int) < (N : Int) by omega), if_pos (show (0 : Int) ≤ (pre.length : Int) by omega), if_pos (show (pre.length : Int) < ((pre.length + 1 : Nat) : Int) by omega), w64s (show pre.length + 1 < 9223372036854775808 by omega),
      if_pos (show (0 : Int) ≤ ((pre.length + 1 : Nat) : Int) by omega), if_pos (show ((pre.length + 1 : Nat) : Int) ≤ ((pre.length + 1 : Nat) : Int) by omega), Int.toNat_natCast]
    rw [e1, hset]
    have e2 : (pre ++ [s]).take (pre.length + 1) = pre ++ [s] := List.take_of_length_le (by simp)
    rw [e2]
    exact Ev.now _
  | succ n ih =>
    intro s pre hp hc hs
    have hlen : (pre ++ List.replicate (n + 1 + 1) (⟨#[]⟩ : ByteArray)).length = pre.length + (n + 2) := by simp
    have hf := fst_lt (c.toNat : Int) (bytesOf s) (by omega)
    rw [bytesOf_length] at hf
    have hi : strings_Index.f s sep = some ((fst (c.toNat : Int) (bytesOf s) : Nat) : Int) := by
      unfold strings_Index.f
      rw [if_pos hone, hget]
      congr 1
      exact index_fst c _ (by show 1 ≤ cnt _ (bytesOf s); omega)
    have hcd := cnt_drop (c.toNat : Int) (bytesOf s) (by omega)
    have h := ih (s.extract (fst (c.toNat : Int) (bytesOf s) + 1) s.size) (pre ++ [s.extract 0 (fst (c.toNat : Int) (bytesOf s))]) (by simp; omega) (by rw [bytesOf_rest]; omega) (by rw [ByteArray.size_extract]; omega)
    simp only [List.length_append, List.length_cons, List.length_nil, List.append_assoc, List.cons_append, List.nil_append, Nat.zero_add] at h
    rw [splitS]
    subst h2
    clear hcd hc ih hget
    generalize fst (c.toNat : Int) (bytesOf s) = f at hf hi h ⊢
    refine Ev.step (fun k => by rw [strings_genSplit.l0]) ?_
    have w1 : wrap64 ((f : Int) + 0) = (f : Int) := by rw [Int.add_zero, w64n (by omega)]
    have w2 : wrap64 ((f : Int) + ((1 : Nat) : Int)) = ((f + 1 : Nat) : Int) := w64s (by omega)
    have e1 : pre ++ List.replicate (n + 1 + 1) (⟨#[]⟩ : ByteArray) = pre ++ (⟨#[]⟩ : ByteArray) :: List.replicate (n + 1) (⟨#[]⟩ : ByteArray) := rfl
    have g1 : (pre.length : Int) < (N : Int) := by omega
    have g2 : ¬ (f : Int) < 0 := by omega
    have g3 : (0 : Int) ≤ (f : Int) := by omega
    have g4 : (f : Int) ≤ (s.size : Int) := by omega
    have g5 : (0 : Int) ≤ (pre.length : Int) := by omega
    have g6 : (pre.length : Int) < ((pre.length + (n + 2) : Nat) : Int) := by omega
    have g7 : (0 : Int) ≤ ((f + 1 : Nat) : Int) := by omega
    have g8 : ((f + 1 : Nat) : Int) ≤ (s.size : Int) := by omega
    have g9 : wrap64 ((pre.length : Int) + 1) = ((pre.length + 1 : Nat) : Int) := w64s (by omega)
    simp only [hlen, if_pos g1]
    refine ev_bind (a := (f : Int)) (ev_const fun _ => hi) ?_
    simp only [hone, w1, w2, if_neg g2, if_pos g3, if_pos g4, if_pos g5, if_pos g6, if_pos g7, if_pos g8, g9, Int.toNat_natCast]
    rw [e1, hset]
    exact h
theorem split_ev (s : ByteArray) (c : UInt8) (hs : s.size ≤ 1099511627776) : Ev (fun k => strings_Split.f k s (⟨#[c]⟩ : ByteArray)) (splitS (c.toNat : Int) (cnt (c.toNat : Int) (bytesOf s)) s) := by
  unfold strings_Split.f strings_genSplit.f
  have hne : ¬ ((⟨#[c]⟩ : ByteArray).toList = ([] : List UInt8)) := by rw [toList_data]; simp
  have hc : strings_Count.f s (⟨#[c]⟩ : ByteArray) = some ((cnt (c.toNat : Int) (bytesOf s) : Nat) : Int) := by
    unfold strings_Count.f
    rw [if_pos (show (⟨#[c]⟩ : ByteArray).size = 1 from rfl)]
    congr 1
    exact congrArg Int.ofNat (count_cnt c s.data.toList)
  have hle := cnt_le (c.toNat : Int) (bytesOf s)
  rw [bytesOf_length] at hle
  have key := fun n hn hc => split_l s (⟨#[c]⟩ : ByteArray) c rfl 0 rfl n hn n s [] (by simp) hc hs
  have kc : ∀ n, n = cnt (c.toNat : Int) (bytesOf s) → Ev (fun k => strings_genSplit.l0 k s (⟨#[c]⟩ : ByteArray) 0 (n : Int) ([] ++ List.replicate (n + 1) (⟨#[]⟩ : ByteArray)) (([] : List ByteArray).length : Int)) ([] ++ splitS (c.toNat : Int) n s) := fun n hn => key n (by omega) hn.symm
  have kd := kc _ rfl
  clear key kc
  generalize cnt (c.toNat : Int) (bytesOf s) = n at hc hle kd ⊢
  have g1 : wrap64 ((n : Int) + 1) = ((n + 1 : Nat) : Int) := w64s (by omega)
  have g2 : wrap64 ((s.size : Int) + 1) = ((s.size + 1 : Nat) : Int) := w64s (by omega)
  simp only [if_neg (show ¬ (-1 : Int) = 0 by omega), if_neg hne, if_pos (show (-1 : Int) < 0 by omega), hc, Option.bind_some, g1]
  refine ev_bind (a := splitS (c.toNat : Int) n s) ?_ (Ev.now _)
  refine Ev.step (fun k => by rw [strings_genSplit.j0]) ?_
  have hmn : mn ((n + 1 : Nat) : Int) ((s.size + 1 : Nat) : Int) = ((n + 1 : Nat) : Int) := by
    unfold mn; split <;> omega
  have g3 : (0 : Int) ≤ ((n + 1 : Nat) : Int) := by omega
  have g4 : n + 1 ≤ 17592186044416 := by omega
  have g5 : wrap64 (((n + 1 : Nat) : Int) - 1) = (n : Int) := by rw [w64 (by omega) (by omega)]; omega
  simp only [g2, hmn, if_pos g3, Int.toNat_natCast, if_pos g4, g5]
  exact kd

/-! texts: which bytes are plain -/
def okb (x : Int) : Bool := x == 10 || (decide (32 ≤ x) && decide (x ≤ 126))
def tv (l : List Int) : Bool := l.all okb && decide (l.length ≤ 20000)
theorem okb_ten : okb 10 = true := rfl
theorem okb_in (x : Int) (h : ¬ x = 10) : okb x = (decide (32 ≤ x) && decide (x ≤ 126)) := by
  unfold okb; rw [beq_eq_false_iff_ne.mpr h]; rfl

/-! tokens of a text, as lists of bytes -/
def letb (x : Int) : Bool := decide (97 ≤ x) && decide (x ≤ 122)
def digb (x : Int) : Bool := decide (48 ≤ x) && decide (x ≤ 57)
def nameb (x : Int) : Bool := letb x || digb x || x == 95 || x == 46
def numb (x : Int) : Bool := digb x || x == 46
def sgn2 (x y : Int) : Bool := (x == 60 && y == 61) || (x == 62 && y == 61) || (x == 61 && y == 61) || (x == 33 && y == 61) || (x == 38 && y == 38) || (x == 124 && y == 124)
def sgns : List Int := [33, 45, 42, 47, 37, 43, 60, 62, 63, 58, 40, 41, 91, 93, 44]
def sgn1 (x : Int) : Bool := sgns.contains x
/-- how many bytes there are up to the quotation mark that ends a text, it included. -/
def qend : List Int → Option Nat
  | [] => none
  | [x] => if x = 34 then some 1 else none
  | x :: y :: l => if x = 34 then some 1 else if x = 92 then (qend l).map (· + 2) else (qend (y :: l)).map (· + 1)
/-- the sign that a text begins with: its length. -/
def sg2 (x : Int) : List Int → Bool
  | [] => false
  | y :: _ => sgn2 x y
def sgnLen (x : Int) (l : List Int) : Option Nat := if sg2 x l = true then some 2 else if sgn1 x = true then some 1 else none
/-- the token that a text begins with: its kind and its length. -/
def tok : List Int → Option (Int × Nat)
  | [] => none
  | x :: l => if letb x = true then some (1, 1 + (l.takeWhile nameb).length)
    else if digb x = true then some (2, 1 + (l.takeWhile numb).length)
    else if x = 34 then (qend l).map fun n => (3, 1 + n)
    else (sgnLen x l).map fun n => (4, n)
theorem qend_le : ∀ (n : Nat) (l : List Int), l.length ≤ n → ∀ m, qend l = some m → 1 ≤ m ∧ m ≤ l.length := by
  intro n
  induction n with
  | zero =>
    intro l hn m h
    have : l = [] := List.length_eq_zero_iff.1 (by omega)
    subst this; simp [qend] at h
  | succ n ih =>
    intro l hn m h
    match l, hn, h with
    | [], _, h => simp [qend] at h
    | [x], hn, h =>
      rw [qend] at h
      split at h
      · have := Option.some.inj h
        simp only [List.length_cons, List.length_nil]; omega
      · cases h
    | x :: y :: l, hn, h =>
      rw [qend] at h
      simp only [List.length_cons] at hn ⊢
      split at h
      · have := Option.some.inj h
        omega
      · split at h
        · obtain ⟨k, hk, rfl⟩ := Option.map_eq_some_iff.1 h
          have := ih l (by omega) k hk
          omega
        · obtain ⟨k, hk, rfl⟩ := Option.map_eq_some_iff.1 h
          have := ih (y :: l) (by simp only [List.length_cons]; omega) k hk
          simp only [List.length_cons] at this
          omega
theorem takeWhile_le {p : Int → Bool} (l : List Int) : (l.takeWhile p).length ≤ l.length := List.IsPrefix.length_le (List.takeWhile_prefix p)
theorem tok_le (M : List Int) (k : Int) (n : Nat) (h : tok M = some (k, n)) : 1 ≤ n ∧ n ≤ M.length := by
  match M, h with
  | x :: l, h =>
    rw [tok] at h
    simp only [List.length_cons]
    split at h
    · have := takeWhile_le (p := nameb) l
      simp only [Option.some.injEq, Prod.mk.injEq] at h
      omega
    · split at h
      · have := takeWhile_le (p := numb) l
        simp only [Option.some.injEq, Prod.mk.injEq] at h
        omega
      · split at h
        · obtain ⟨m, hm, he⟩ := Option.map_eq_some_iff.1 h
          have := qend_le _ l (Nat.le_refl _) m hm
          simp only [Prod.mk.injEq] at he
          omega
        · obtain ⟨m, hm, he⟩ := Option.map_eq_some_iff.1 h
          simp only [Prod.mk.injEq] at he
          unfold sgnLen at hm
          split at hm
          · rename_i h2
            have := Option.some.inj hm
            cases l with
            | nil => simp [sg2] at h2
            | cons y l' => simp only [List.length_cons]; omega
          · split at hm
            · have := Option.some.inj hm
              omega
            · cases hm
/-- the tokens of a text that stands at a place; `n`: at least as many rounds as it has bytes. -/
def toks : Nat → List Int → Nat → Option (List (Int × Nat × Nat))
  | 0, [], _ => some []
  | 0, _ :: _, _ => none
  | _ + 1, [], _ => some []
  | n + 1, x :: l, i => if x = 32 then toks n l (i + 1) else
      match tok (x :: l) with
      | none => none
      | some (k, m) => (toks n ((x :: l).drop m) (i + m)).map fun ts => (k, i, i + m) :: ts
theorem toks_more : ∀ (n : Nat) (M : List Int) (i m : Nat), M.length ≤ n → M.length ≤ m → toks n M i = toks m M i := by
  intro n
  induction n with
  | zero =>
    intro M i m hn hm
    have : M = [] := List.length_eq_zero_iff.1 (by omega)
    subst this
    cases m <;> rfl
  | succ n ih =>
    intro M i m hn hm
    match M, hn, hm with
    | [], _, _ => cases m <;> rfl
    | x :: l, hn, hm =>
      simp only [List.length_cons] at hn hm
      cases m with
      | zero => omega
      | succ m =>
        rw [toks, toks]
        by_cases h32 : x = 32
        · rw [if_pos h32, if_pos h32]
          exact ih l (i + 1) m (by omega) (by omega)
        · rw [if_neg h32, if_neg h32]
          cases ht : tok (x :: l) with
          | none => rfl
          | some p =>
            obtain ⟨k, q⟩ := p
            have := tok_le _ k q ht
            simp only [List.length_cons] at this
            simp only
            rw [ih _ _ m (by rw [List.length_drop]; simp only [List.length_cons]; omega) (by rw [List.length_drop]; simp only [List.length_cons]; omega)]
def toksOf (L : List Int) : Option (List (Int × Nat × Nat)) := if tv L = true ∧ L.contains 10 = false then toks L.length L 0 else none

/-! names -/
def okat (n : Nat) (x : Int) : Bool := letb x || (decide (n ≠ 0) && (digb x || x == 95))
def nv : Nat → List Int → Bool
  | n, [] => decide (0 < n)
  | n, x :: l => if x = 46 ∧ 0 < n then nv 0 l else okat n x && decide (n + 1 ≤ 12) && nv (n + 1) l
def vb : Nat → List Int → Bool
  | _, [] => true
  | n, x :: l => okat n x && vb (n + 1) l
def partOk (p : List Int) : Bool := vb 0 p && decide (1 ≤ p.length) && decide (p.length ≤ 12)
theorem vb_app : ∀ (a b : List Int) (n : Nat), vb n (a ++ b) = (vb n a && vb (n + a.length) b)
  | [], b, n => by simp [vb]
  | x :: a, b, n => by
    rw [List.cons_append, vb, vb, vb_app a b (n + 1), List.length_cons, Bool.and_assoc, show n + (a.length + 1) = n + 1 + a.length by omega]
theorem okat_dot (n : Nat) : okat n 46 = false := by
  unfold okat letb digb; simp
def badP (p : List Int) : Prop := vb 0 p = false ∨ 12 < p.length
theorem badP_ok {p : List Int} (h : badP p) : partOk p = false := by
  unfold partOk
  rcases h with h | h
  · rw [h]; rfl
  · rw [decide_eq_false (show ¬ p.length ≤ 12 by omega), Bool.and_false]
theorem badP_app {p : List Int} (h : badP p) (q : List Int) : badP (p ++ q) := by
  rcases h with h | h
  · left; rw [vb_app, h]; rfl
  · right; rw [List.length_append]; omega
theorem splitA_bad : ∀ (l cur : List Int), badP cur → (splitA 46 cur l).all partOk = false
  | [], cur, h => by rw [splitA, List.all_cons, badP_ok h]; rfl
  | x :: l, cur, h => by
    rw [splitA]
    by_cases hx : x = 46
    · rw [if_pos hx, List.all_cons, badP_ok h]; rfl
    · rw [if_neg hx]; exact splitA_bad l _ (badP_app h _)
theorem splitA_nv : ∀ (l cur : List Int), vb 0 cur = true → cur.length ≤ 12 → (splitA 46 cur l).all partOk = nv cur.length l
  | [], cur, h, hl => by
    rw [splitA, nv, List.all_cons, List.all_nil, Bool.and_true]
    unfold partOk
    rw [h, decide_eq_true hl, Bool.and_true, Bool.true_and]; rfl
  | x :: l, cur, h, hl => by
    rw [splitA, nv]
    by_cases hx : x = 46
    · rw [if_pos hx, List.all_cons]
      have ih := splitA_nv l [] rfl (by simp)
      by_cases h0 : 0 < cur.length
      · rw [if_pos ⟨hx, h0⟩, ih]
        have : partOk cur = true := by unfold partOk; rw [h, decide_eq_true (show 1 ≤ cur.length by omega), decide_eq_true hl]; rfl
        rw [this, Bool.true_and]; rfl
      · rw [if_neg (fun e => h0 e.2)]
        have hc : cur = [] := List.length_eq_zero_iff.1 (by omega)
        subst hc
        rw [hx, okat_dot]
        rfl
    · rw [if_neg hx, if_neg (fun e => hx e.1)]
      by_cases ho : okat cur.length x = true ∧ cur.length + 1 ≤ 12
      · have := splitA_nv l (cur ++ [x]) (by rw [vb_app, h, Nat.zero_add, vb, vb, ho.1]; rfl) (by rw [List.length_append]; exact ho.2)
        rw [this, ho.1, decide_eq_true ho.2, List.length_append]; rfl
      · have hb : badP (cur ++ [x]) := by
          by_cases h1 : okat cur.length x = true
          · right
            rw [List.length_append, List.length_cons, List.length_nil]
            have : ¬ cur.length + 1 ≤ 12 := fun e => ho ⟨h1, e⟩
            omega
          · left
            rw [vb_app, h, Nat.zero_add, vb, vb]
            cases hh : okat cur.length x
            · rfl
            · exact absurd hh h1
        rw [splitA_bad l _ hb]
        cases h1 : okat cur.length x
        · rfl
        · rw [decide_eq_false (fun e => ho ⟨h1, e⟩)]; rfl
/-- whether a text is a name. -/
def nameV (s : ByteArray) : Bool := nv 0 (bytesOf s) && (s.toList != ([116, 114, 117, 101] : List UInt8)) && (s.toList != ([102, 97, 108, 115, 101] : List UInt8))
theorem end_nv (s : ByteArray) : (if s.toList = ([116, 114, 117, 101] : List UInt8) then (some false) else (some (s.toList != ([102, 97, 108, 115, 101] : List UInt8)))) = some ((s.toList != ([116, 114, 117, 101] : List UInt8)) && (s.toList != ([102, 97, 108, 115, 101] : List UInt8))) := by
  by_cases h : s.toList = ([116, 114, 117, 101] : List UInt8)
  · rw [if_pos h, h]; rfl
  · rw [if_neg h, bne_iff_ne.mpr h, Bool.true_and]

theorem nletb (x : Int) : spec_l3Letter.f x = some (letb x) := by
  unfold spec_l3Letter.f letb
  by_cases h : x ≥ 97
  · rw [if_pos h, decide_eq_true (show 97 ≤ x from h), Bool.true_and]
  · rw [if_neg h, decide_eq_false (show ¬ 97 ≤ x from h), Bool.false_and]
theorem ndigb (x : Int) : spec_l3Digit.f x = some (digb x) := by
  unfold spec_l3Digit.f digb
  by_cases h : x ≥ 48
  · rw [if_pos h, decide_eq_true (show 48 ≤ x from h), Bool.true_and]
  · rw [if_neg h, decide_eq_false (show ¬ 48 ≤ x from h), Bool.false_and]
theorem s_nv_l (s : ByteArray) (hs : s.size ≤ 1048576) : ∀ (l : List Int) (n i : Nat), (bytesOf s).drop i = l → i ≤ s.size → n ≤ 12 →
    Ev (fun k => spec_NameValid.l0 k s (n : Int) (i : Int)) (nv n l && (s.toList != ([116, 114, 117, 101] : List UInt8)) && (s.toList != ([102, 97, 108, 115, 101] : List UInt8))) := by
  intro l
  induction l with
  | nil =>
    intro n i hl hi hn
    have hz : s.size = i := by
      have := List.drop_eq_nil_iff.1 hl
      rw [bytesOf_length] at this; omega
    refine Ev.step (fun k => by rw [spec_NameValid.l0]) (ev_const fun k => ?_)
    rw [if_neg (by omega), nv]
    by_cases h0 : 0 < n
    · rw [if_pos (show (n : Int) > 0 by omega), end_nv, decide_eq_true h0, Bool.true_and]
    · rw [if_neg (show ¬ (n : Int) > 0 by omega), decide_eq_false h0]; rfl
  | cons x l ih =>
    intro n i hl hi hn
    have hlt : i < s.size := by
      rcases Nat.lt_or_ge i s.size with h | h
      · exact h
      · rw [List.drop_eq_nil_iff.2 (by rw [bytesOf_length]; exact h)] at hl; cases hl
    have hd := drop_cons (bytesOf s) i (by rw [bytesOf_length]; exact hlt)
    rw [hd] at hl
    obtain ⟨hx, hl'⟩ := List.cons.inj hl
    have hb := bt_nat s i
    rw [hx] at hb
    have hw : wrap64 ((i : Int) + 1) = ((i + 1 : Nat) : Int) := w64s (by omega)
    have j2t : Ev (fun k => spec_NameValid.j2 k s (n : Int) (i : Int) true) false := by
      refine Ev.step (fun k => by rw [spec_NameValid.j2]) ?_
      simp only [if_true]; exact Ev.now _
    have j2f : Ev (fun k => spec_NameValid.j2 k s (n : Int) (i : Int) false) (decide (n + 1 ≤ 12) && nv (n + 1) l && (s.toList != ([116, 114, 117, 101] : List UInt8)) && (s.toList != ([102, 97, 108, 115, 101] : List UInt8))) := by
      refine Ev.step (fun k => by rw [spec_NameValid.j2]) ?_
      simp only [Bool.false_eq_true, if_false, w64s (show n + 1 < 9223372036854775808 by omega), hw]
      by_cases h12 : ((n + 1 : Nat) : Int) > 12
      · simp only [if_pos h12, decide_eq_false (show ¬ n + 1 ≤ 12 by omega), Bool.false_and]; exact Ev.now _
      · simp only [if_neg h12, decide_eq_true (show n + 1 ≤ 12 by omega), Bool.true_and]
        exact ih (n + 1) (i + 1) hl' (by omega) (by omega)
    have j1f : ¬ (x = 46 ∧ 0 < n) → Ev (fun k => spec_NameValid.j1 k s (n : Int) (i : Int) false) (nv n (x :: l) && (s.toList != ([116, 114, 117, 101] : List UInt8)) && (s.toList != ([102, 97, 108, 115, 101] : List UInt8))) := by
      intro hno
      rw [nv, if_neg hno]
      refine Ev.step (fun k => by rw [spec_NameValid.j1]) ?_
      simp only [Bool.false_eq_true, if_false, hb, if_pos (show (0 : Int) ≤ (i : Int) by omega), if_pos (show (i : Int) < (s.size : Int) by omega), nletb, ndigb, Option.bind_some]
      unfold okat
      cases hlet : letb x
      · simp only [Bool.false_eq_true, if_false, Bool.false_or]
        by_cases h0 : n = 0
        · simp only [if_pos (show (n : Int) = 0 by omega), h0, ne_eq, not_true, decide_false, Bool.false_and]
          rw [h0] at j2t
          exact j2t
        · simp only [if_neg (show ¬ (n : Int) = 0 by omega), h0, ne_eq, not_false_iff, decide_true, Bool.true_and]
          cases hdig : digb x
          · simp only [Bool.false_eq_true, if_false, Bool.false_or]
            by_cases h95 : x = 95
            · simp only [bne_eq_false_iff_eq.mpr h95, beq_iff_eq.mpr h95, Bool.true_and]; exact j2f
            · simp only [bne_iff_ne.mpr h95, beq_eq_false_iff_ne.mpr h95, Bool.false_and]; exact j2t
          · simp only [if_true, Bool.true_or, Bool.true_and]; exact j2f
      · simp only [if_true, Bool.true_or, Bool.true_and]; exact j2f
    refine Ev.step (fun k => by rw [spec_NameValid.l0]) ?_
    simp only [hb, if_pos (show (i : Int) < (s.size : Int) by omega), if_pos (show (0 : Int) ≤ (i : Int) by omega)]
    by_cases h46 : x = 46
    · simp only [if_pos h46]
      by_cases h0 : 0 < n
      · simp only [decide_eq_true (show (n : Int) > 0 by omega)]
        rw [nv, if_pos ⟨h46, h0⟩]
        refine Ev.step (fun k => by rw [spec_NameValid.j1]) ?_
        simp only [if_true, hw]
        exact ih 0 (i + 1) hl' (by omega) (by omega)
      · simp only [decide_eq_false (show ¬ (n : Int) > 0 by omega)]
        exact j1f (fun e => h0 e.2)
    · simp only [if_neg h46]
      exact j1f (fun e => h46 e.1)
theorem spec_nv (s : ByteArray) (hs : s.size ≤ 1048576) : Ev (fun k => spec_NameValid.f k s) (nameV s) := s_nv_l s hs _ 0 0 rfl (by omega) (by omega)

theorem nsmall (x : Int) (h : 0 ≤ x ∧ x ≤ 255) : impl_isSmall.f x = some (letb x) := by
  unfold impl_isSmall.f impl_in.f letb
  rw [w64 (by omega) (by omega)]
  by_cases h1 : x ≥ 97
  · rw [if_pos h1, decide_eq_true (show 97 ≤ x from h1)]; simp
  · rw [if_neg h1, decide_eq_false (show ¬ 97 ≤ x from h1)]; simp
theorem ndigit (x : Int) (h : 0 ≤ x ∧ x ≤ 255) : impl_isDigit.f x = some (digb x) := by
  unfold impl_isDigit.f impl_in.f digb
  rw [w64 (by omega) (by omega)]
  by_cases h1 : x ≥ 48
  · rw [if_pos h1, decide_eq_true (show 48 ≤ x from h1)]; simp
  · rw [if_neg h1, decide_eq_false (show ¬ 48 ≤ x from h1)]; simp
theorem i_part_l (s : ByteArray) (hs : s.size ≤ 1048576) : ∀ (l : List Int) (i : Nat), (bytesOf s).drop i = l → i ≤ s.size →
    Ev (fun k => impl_partValid.l0 k s (i : Int)) (vb i l && decide (1 ≤ s.size) && decide (s.size ≤ 12)) := by
  intro l
  induction l with
  | nil =>
    intro i hl hi
    have hz : s.size = i := by
      have := List.drop_eq_nil_iff.1 hl
      rw [bytesOf_length] at this; omega
    refine Ev.step (fun k => by rw [impl_partValid.l0]) (ev_const fun k => ?_)
    rw [if_neg (by omega), vb, Bool.true_and]
    unfold impl_in.f
    by_cases h1 : (s.size : Int) ≥ 1
    · rw [if_pos h1, decide_eq_true (show 1 ≤ s.size by omega), Bool.true_and, Option.bind_some]
      congr 1
      exact decide_eq_decide.2 (by omega)
    · rw [if_neg h1, decide_eq_false (show ¬ 1 ≤ s.size by omega)]; rfl
  | cons x l ih =>
    intro i hl hi
    have hlt : i < s.size := by
      rcases Nat.lt_or_ge i s.size with h | h
      · exact h
      · rw [List.drop_eq_nil_iff.2 (by rw [bytesOf_length]; exact h)] at hl; cases hl
    have hd := drop_cons (bytesOf s) i (by rw [bytesOf_length]; exact hlt)
    rw [hd] at hl
    obtain ⟨hx, hl'⟩ := List.cons.inj hl
    have hb := bt_nat s i
    have hr := getD_range s i
    rw [hx] at hb hr
    have h1 := ih (i + 1) hl' (by omega)
    refine Ev.step (fun k => by rw [impl_partValid.l0]) ?_
    simp only [hb, if_pos (show (i : Int) < (s.size : Int) by omega), if_pos (show (0 : Int) ≤ (i : Int) by omega), nsmall x hr, ndigit x hr, Option.bind_some, w64s (show i + 1 < 9223372036854775808 by omega)]
    rw [vb]
    unfold okat
    cases hlet : letb x
    · simp only [Bool.false_eq_true, if_false, Bool.false_or]
      by_cases h0 : i = 0
      · simp only [if_pos (show (i : Int) = 0 by omega), h0, ne_eq, not_true, decide_false, Bool.false_and]
        exact Ev.now _
      · simp only [if_neg (show ¬ (i : Int) = 0 by omega), h0, ne_eq, not_false_iff, decide_true, Bool.true_and]
        cases hdig : digb x
        · simp only [Bool.false_eq_true, if_false, Bool.false_or]
          by_cases h95 : x = 95
          · simp only [if_pos h95, beq_iff_eq.mpr h95, Bool.true_and]; exact h1
          · simp only [if_neg h95, beq_eq_false_iff_ne.mpr h95, Bool.false_and]; exact Ev.now _
        · simp only [if_true, Bool.true_or, Bool.true_and]; exact h1
    · simp only [if_true, Bool.true_or, Bool.true_and]; exact h1
theorem impl_part (s : ByteArray) (hs : s.size ≤ 1048576) : Ev (fun k => impl_partValid.f k s) (partOk (bytesOf s)) := by
  have := i_part_l s hs _ 0 rfl (by omega)
  unfold partOk
  rw [bytesOf_length]
  exact this
theorem i_nv_l (s : ByteArray) (P : List ByteArray) (hP : ∀ p ∈ P, p.size ≤ 1048576) (hl : P.length ≤ 1048577) : ∀ (R : List ByteArray) (j : Nat), P.drop j = R → j ≤ P.length →
    Ev (fun k => impl_NameValid.l0 k s P (P.length : Int) (j : Int)) ((R.map bytesOf).all partOk && ((s.toList != ([116, 114, 117, 101] : List UInt8)) && (s.toList != ([102, 97, 108, 115, 101] : List UInt8)))) := by
  intro R
  induction R with
  | nil =>
    intro j hd hj
    have hn := List.drop_eq_nil_iff.1 hd
    refine Ev.step (fun k => by rw [impl_NameValid.l0]) (ev_const fun k => ?_)
    rw [if_neg (show ¬ (j : Int) < (P.length : Int) by omega), end_nv]; rfl
  | cons p R ih =>
    intro j hd hj
    have hlt : j < P.length := by
      rcases Nat.lt_or_ge j P.length with h | h
      · exact h
      · rw [List.drop_eq_nil_iff.2 h] at hd; cases hd
    have hd' := hd
    rw [List.drop_eq_getElem_cons hlt] at hd'
    obtain ⟨hp, hR⟩ := List.cons.inj hd'
    have hg : P.getD j ByteArray.empty = p := by rw [List.getD_eq_getElem?_getD, List.getElem?_eq_getElem hlt, hp]; rfl
    have hm : p ∈ P := by rw [← hp]; exact List.getElem_mem hlt
    have h1 := ih (j + 1) hR (by omega)
    refine Ev.step (fun k => by rw [impl_NameValid.l0]) ?_
    simp only [rdOf_nat, hg, if_pos (show (j : Int) < (P.length : Int) by omega), if_pos (show (0 : Int) ≤ (j : Int) by omega), w64s (show j + 1 < 9223372036854775808 by omega)]
    refine ev_bind (impl_part p (hP p hm)) ?_
    rw [List.map_cons, List.all_cons]
    cases partOk (bytesOf p)
    · simp only [Bool.false_eq_true, if_false, Bool.false_and]; exact Ev.now _
    · simp only [if_true, Bool.true_and]; exact h1
theorem splitS_small (c : Int) : ∀ (n : Nat) (s p : ByteArray), p ∈ splitS c n s → p.size ≤ s.size
  | 0, s, p, h => by
    rw [splitS, List.mem_singleton] at h
    rw [h]; exact Nat.le_refl _
  | n + 1, s, p, h => by
    rw [splitS] at h
    rcases List.mem_cons.1 h with h | h
    · rw [h, ByteArray.size_extract]; omega
    · have := splitS_small c n _ p h
      rw [ByteArray.size_extract] at this; omega
theorem impl_nv (s : ByteArray) (hs : s.size ≤ 1048576) : Ev (fun k => impl_NameValid.f k s) (nameV s) := by
  unfold impl_NameValid.f
  have hc := cnt_le 46 (bytesOf s)
  rw [bytesOf_length] at hc
  refine ev_bind (split_ev s 46 (by omega)) ?_
  have h := i_nv_l s (splitS 46 (cnt 46 (bytesOf s)) s) (fun p hp => by have := splitS_small 46 _ s p hp; omega) (by rw [splitS_len]; omega) (splitS 46 (cnt 46 (bytesOf s)) s) 0 rfl (by omega)
  rw [splitS_bytes 46 _ s rfl, splitA_nv _ [] rfl (by simp)] at h
  unfold nameV
  rw [Bool.and_assoc]
  exact h

theorem tmod_nn (a b : Int) (ha : 0 ≤ a) (hb : 0 < b) : 0 ≤ Int.tmod a b ∧ Int.tmod a b < b ∧ Int.tmod a b ≤ a := by
  rw [Int.tmod_eq_emod_of_nonneg ha]
  refine ⟨Int.emod_nonneg _ (by omega), Int.emod_lt_of_pos _ hb, ?_⟩
  have := Int.emod_add_mul_ediv a b
  have h2 : 0 ≤ a / b := Int.ediv_nonneg ha (by omega)
  have h3 : 0 ≤ b * (a / b) := Int.mul_nonneg (by omega) h2
  omega
theorem tdiv_nn (a b : Int) (ha : 0 ≤ a) (hb : 0 < b) : 0 ≤ Int.tdiv a b ∧ Int.tdiv a b ≤ a := by
  rw [Int.tdiv_eq_ediv_of_nonneg ha]
  exact ⟨Int.ediv_nonneg ha (by omega), Int.ediv_le_self _ ha⟩

/-! the reader that the inputs are drawn from -/
theorem xor_small (a b : Int) (ha : 0 ≤ a) (ha' : a < 4611686018427387904) (hb : 0 ≤ b) (hb' : b < 4611686018427387904) :
    0 ≤ Go.bits .xor .i64 a b ∧ Go.bits .xor .i64 a b < 4611686018427387904 := by
  obtain ⟨m, rfl⟩ := Int.eq_ofNat_of_zero_le ha
  obtain ⟨n, rfl⟩ := Int.eq_ofNat_of_zero_le hb
  have hx : m ^^^ n < 2 ^ 62 := Nat.xor_lt_two_pow (by omega) (by omega)
  have h1 : m % 2 ^ 64 = m := Nat.mod_eq_of_lt (by omega)
  have h2 : n % 2 ^ 64 = n := Nat.mod_eq_of_lt (by omega)
  have e : Go.bits .xor .i64 (m : Int) (n : Int) = ((m ^^^ n : Nat) : Int) := by
    have e1 : (BitVec.ofNat 64 m ^^^ BitVec.ofNat 64 n).toNat = m ^^^ n := by
      rw [BitVec.toNat_xor, BitVec.toNat_ofNat, BitVec.toNat_ofNat, h1, h2]
    show Go.IntKind.i64.wrap (((BitVec.ofInt 64 (m : Int) ^^^ BitVec.ofInt 64 (n : Int)).toNat : Nat) : Int) = _
    rw [BitVec.ofInt_natCast, BitVec.ofInt_natCast, e1, Go.IntKind.wrap_i64]; omega
  rw [e]; omega
/-- what is known of the reader's bytes. -/
def Bys (L : List Int) : Prop := L.length ≤ 2000 ∧ ∀ x ∈ L, 0 ≤ x ∧ x ≤ 255
theorem Bys.rd {L : List Int} (h : Bys L) (i : Int) : 0 ≤ rd L i ∧ rd L i ≤ 255 := by
  unfold Go.Proofs.YteloagahkphiaaaDoorW.PrintWords.rd
  rw [List.getD_eq_getElem?_getD]
  rcases Nat.lt_or_ge i.toNat L.length with hl | hl
  · rw [List.getElem?_eq_getElem hl]
    exact h.2 _ (List.getElem_mem hl)
  · rw [List.getElem?_eq_none hl]; simp
theorem pick_ev (L : List Int) (hL : Bys L) (p n : Int) (hp : 0 ≤ p) (hp' : p ≤ 1099511627776) (hn : 1 ≤ n) :
    ∃ v, 0 ≤ v ∧ v < n ∧ Ev (fun k => spec_l20Rd_pick.f k L p n) (v, p + 1) := by
  have hlen := hL.1
  have hp1 : wrap64 (p + 1) = p + 1 := w64 (by omega) (by omega)
  have hp2 : wrap64 (p + 1 - 1) = p := by rw [w64 (by omega) (by omega)]; omega
  by_cases h0 : L.length = 0
  · refine ⟨0, by omega, by omega, ?_⟩
    unfold spec_l20Rd_pick.f
    simp only [if_neg (show ¬ n < 1 by omega), hp1]
    refine Ev.step (fun k => by rw [spec_l20Rd_pick.j0]) ?_
    simp only [show ((L.length : Int) == 0) = true by simpa using h0, if_true]
    exact Ev.now _
  · by_cases hlt : p < (L.length : Int)
    · have hr := hL.rd p
      have ht := tmod_nn (rd L p) n hr.1 (by omega)
      refine ⟨_, ht.1, ht.2.1, ?_⟩
      unfold spec_l20Rd_pick.f
      simp only [if_neg (show ¬ n < 1 by omega), hp1]
      refine Ev.step (fun k => by rw [spec_l20Rd_pick.j0]) ?_
      simp only [show ((L.length : Int) == 0) = false by simpa using h0, Bool.false_eq_true, if_false, hp2, if_pos hlt, if_pos hp, if_neg (show ¬ n = 0 by omega), w64 (n := rd L p) (by omega) (by omega)]
      exact Ev.now _
    · have hpos : (0 : Int) < (L.length : Int) := by omega
      have hi1 := tmod_nn p L.length hp hpos
      have hw7 : wrap64 (wrap64 (p * 7) + 3) = p * 7 + 3 := by rw [w64 (n := p * 7) (by omega) (by omega), w64 (by omega) (by omega)]
      have hi2 := tmod_nn (p * 7 + 3) L.length (by omega) hpos
      have hd := tdiv_nn p L.length hp hpos
      have r1 := hL.rd (Int.tmod p L.length)
      have r2 := hL.rd (Int.tmod (p * 7 + 3) L.length)
      have hX : wrap64 (wrap64 (wrap64 (wrap64 (wrap64 (rd L (Int.tmod p L.length)) * 131) + wrap64 (wrap64 (rd L (Int.tmod (p * 7 + 3) L.length)) * 1117)) + wrap64 (p * 29)) + wrap64 (wrap64 (Int.tdiv p L.length) * 53))
          = rd L (Int.tmod p L.length) * 131 + rd L (Int.tmod (p * 7 + 3) L.length) * 1117 + p * 29 + Int.tdiv p L.length * 53 := by
        generalize rd L (Int.tmod p L.length) = a at *
        generalize rd L (Int.tmod (p * 7 + 3) L.length) = b at *
        generalize Int.tdiv p L.length = c at *
        rw [w64 (n := a) (by omega) (by omega), w64 (n := b) (by omega) (by omega), w64 (n := c) (by omega) (by omega), w64 (n := a * 131) (by omega) (by omega), w64 (n := b * 1117) (by omega) (by omega), w64 (n := p * 29) (by omega) (by omega), w64 (n := c * 53) (by omega) (by omega)]
        rw [w64 (n := a * 131 + b * 1117) (by omega) (by omega), w64 (n := a * 131 + b * 1117 + p * 29) (by omega) (by omega), w64 (by omega) (by omega)]
      have hX0 : 0 ≤ rd L (Int.tmod p L.length) * 131 + rd L (Int.tmod (p * 7 + 3) L.length) * 1117 + p * 29 + Int.tdiv p L.length * 53 := by omega
      have hX1 : rd L (Int.tmod p L.length) * 131 + rd L (Int.tmod (p * 7 + 3) L.length) * 1117 + p * 29 + Int.tdiv p L.length * 53 < 4611686018427387904 := by omega
      generalize hXe : rd L (Int.tmod p L.length) * 131 + rd L (Int.tmod (p * 7 + 3) L.length) * 1117 + p * 29 + Int.tdiv p L.length * 53 = X at *
      have hq := tdiv_nn X 64 hX0 (by omega)
      have hx := xor_small X (Int.tdiv X 64) hX0 hX1 hq.1 (by omega)
      have ht := tmod_nn _ n hx.1 (by omega)
      refine ⟨_, ht.1, ht.2.1, ?_⟩
      unfold spec_l20Rd_pick.f
      simp only [if_neg (show ¬ n < 1 by omega), hp1]
      refine Ev.step (fun k => by rw [spec_l20Rd_pick.j0]) ?_
      simp only [show ((L.length : Int) == 0) = false by simpa using h0, Bool.false_eq_true, if_false, hp2, if_neg hlt, if_neg (show ¬ (L.length : Int) = 0 by omega), if_neg (show ¬ n = 0 by omega),
        if_pos hi1.1, if_pos hi1.2.1, hw7, if_pos hi2.1, if_pos hi2.2.1, hX, w64 (n := Int.tdiv X 64) (by omega) (by omega)]
      exact Ev.now _
theorem odd_ev (L : List Int) (hL : Bys L) (p n : Int) (hp : 0 ≤ p) (hp' : p ≤ 1099511627776) (hn : 0 ≤ n) (hn' : n ≤ 1000000) :
    ∃ b q, p ≤ q ∧ q ≤ p + 1 ∧ Ev (fun k => spec_l20Rd_odd.f k L p n) (b, q) := by
  unfold spec_l20Rd_odd.f
  by_cases h : n > 0
  · obtain ⟨v, h0, h1, hv⟩ := pick_ev L hL p n hp hp' (by omega)
    refine ⟨(v == wrap64 (n - 1)), p + 1, by omega, by omega, ?_⟩
    simp only [if_pos h]
    exact ev_bind hv (Ev.now _)
  · refine ⟨false, p, by omega, by omega, ?_⟩
    simp only [if_neg h]
    exact Ev.now _
theorem open_ev (l : List Int) (hw : ∀ x ∈ l, (Lit.int .u8 x).wf = true) : ∃ L, Bys L ∧ spec_l20Open.f l = some (L, 0) := by
  have hr : ∀ x ∈ l, 0 ≤ x ∧ x ≤ 255 := by
    intro x hx
    have := hw x hx
    simp [Lit.wf, IntKind.min, IntKind.max, IntKind.signed, IntKind.bits] at this
    omega
  unfold spec_l20Open.f
  by_cases h : (l.length : Int) > 2000
  · refine ⟨l.take 2000, ⟨by simp; omega, fun x hx => hr x (List.mem_of_mem_take hx)⟩, ?_⟩
    rw [if_pos h, if_pos (by omega)]
  · refine ⟨l, ⟨by omega, hr⟩, ?_⟩
    rw [if_neg h]

/-- from some number of rounds on the answer is one that P holds of. -/
def EvP {α : Type} (g : Nat → Option α) (P : α → Prop) : Prop := ∃ r, P r ∧ Ev g r
theorem EvP.now {α : Type} {P : α → Prop} {r : α} (h : P r) : EvP (fun _ => some r) P := ⟨r, h, Ev.now r⟩
theorem EvP.bind {α β : Type} {g : Nat → Option α} {f : Nat → α → Option β} {P : α → Prop} {Q : β → Prop} (h : EvP g P) (k : ∀ a, P a → EvP (fun n => f n a) Q) :
    EvP (fun n => (g n).bind (fun x => f n x)) Q := by
  obtain ⟨a, ha, he⟩ := h
  obtain ⟨b, hb, hf⟩ := k a ha
  exact ⟨b, hb, ev_bind he hf⟩
theorem EvP.step {α : Type} {g f : Nat → Option α} {P : α → Prop} (h : ∀ k, g (k + 1) = f k) (k : EvP f P) : EvP g P := by
  obtain ⟨r, hr, he⟩ := k
  exact ⟨r, hr, Ev.step h he⟩
theorem EvP.mono {α : Type} {g : Nat → Option α} {P Q : α → Prop} (h : EvP g P) (k : ∀ r, P r → Q r) : EvP g Q := by
  obtain ⟨r, hr, he⟩ := h
  exact ⟨r, k r hr, he⟩
theorem EvP.of_ev {α : Type} {g : Nat → Option α} {P : α → Prop} {r : α} (h : Ev g r) (hp : P r) : EvP g P := ⟨r, hp, h⟩
theorem pick_p (L : List Int) (hL : Bys L) (p n : Int) (hp : 0 ≤ p) (hp' : p ≤ 1099511627776) (hn : 1 ≤ n) :
    EvP (fun k => spec_l20Rd_pick.f k L p n) (fun r => 0 ≤ r.1 ∧ r.1 < n ∧ r.2 = p + 1) := by
  obtain ⟨v, h0, h1, he⟩ := pick_ev L hL p n hp hp' hn
  exact ⟨_, ⟨h0, h1, rfl⟩, he⟩
theorem odd_p (L : List Int) (hL : Bys L) (p n : Int) (hp : 0 ≤ p) (hp' : p ≤ 1099511627776) (hn : 0 ≤ n) (hn' : n ≤ 1000000) :
    EvP (fun k => spec_l20Rd_odd.f k L p n) (fun r => p ≤ r.2 ∧ r.2 ≤ p + 1) := by
  obtain ⟨b, q, h0, h1, he⟩ := odd_ev L hL p n hp hp' hn hn'
  exact ⟨_, ⟨h0, h1⟩, he⟩
theorem rd_all {P : Int → Prop} (ys : List Int) (h : ∀ y ∈ ys, P y) (i : Int) (h0 : 0 ≤ i) (hi : i < (ys.length : Int)) : P (rd ys i) := by
  unfold Go.Proofs.YteloagahkphiaaaDoorW.PrintWords.rd
  have hl : i.toNat < ys.length := by omega
  rw [List.getD_eq_getElem?_getD, List.getElem?_eq_getElem hl]
  exact h _ (List.getElem_mem hl)

/-! drawn texts are short -/
theorem rdOf_small (ys : List ByteArray) (b : Nat) (h : ∀ y ∈ ys, y.size ≤ b) (i : Int) : (rdOf ByteArray.empty ys i).size ≤ b := by
  unfold rdOf
  rw [List.getD_eq_getElem?_getD]
  rcases Nat.lt_or_ge i.toNat ys.length with hl | hl
  · rw [List.getElem?_eq_getElem hl]
    exact h _ (List.getElem_mem hl)
  · rw [List.getElem?_eq_none hl]; show 0 ≤ b; omega
theorem plain_l (L : List Int) (hL : Bys L) (n : Int) (hn : 0 ≤ n) (hn' : n ≤ 1000000) : ∀ (j : Nat) (p : Int) (o : ByteArray), 0 ≤ p → p + j ≤ 1000000 → o.size + j ≤ 1000000 →
    ∃ R q, R.size ≤ o.size + j + 1 ∧ p ≤ q ∧ q ≤ p + j + 2 ∧ Ev (fun k => spec_l20Plain.l0 k n o (j : Int) L p) (R, q) := by
  intro j
  induction j with
  | zero =>
    intro p o hp hpj hoj
    obtain ⟨b, q, h1, h2, ho⟩ := odd_ev L hL p n hp (by omega) hn hn'
    cases b with
    | false =>
      refine ⟨o, q, by omega, by omega, by omega, ?_⟩
      refine Ev.step (fun k => by rw [spec_l20Plain.l0]) ?_
      simp only [if_neg (show ¬ ((0 : Nat) : Int) > 0 by omega)]
      refine ev_bind ho ?_
      simp only [Bool.false_eq_true, if_false]
      exact Ev.now _
    | true =>
      obtain ⟨v, h3, h4, hv⟩ := pick_ev L hL q 3 (by omega) (by omega) (by omega)
      have hz := rdOf_small [(⟨#[31]⟩ : ByteArray), (⟨#[127]⟩ : ByteArray), (⟨#[195]⟩ : ByteArray)] 1 (by decide) v
      refine ⟨o ++ rdOf ByteArray.empty [(⟨#[31]⟩ : ByteArray), (⟨#[127]⟩ : ByteArray), (⟨#[195]⟩ : ByteArray)] v, q + 1, by rw [ByteArray.size_append]; omega, by omega, by omega, ?_⟩
      · refine Ev.step (fun k => by rw [spec_l20Plain.l0]) ?_
        simp only [if_neg (show ¬ ((0 : Nat) : Int) > 0 by omega)]
        refine ev_bind ho ?_
        simp only [if_true, Option.bind_some]
        refine ev_bind hv ?_
        simp only [if_pos h3, List.length_cons, List.length_nil]
        simp only [if_pos (show v < ((0 + 1 + 1 + 1 : Nat) : Int) by omega)]
        simp only [if_pos (show o.size + (rdOf ByteArray.empty [(⟨#[31]⟩ : ByteArray), (⟨#[127]⟩ : ByteArray), (⟨#[195]⟩ : ByteArray)] v).size ≤ 9223372036854775807 by omega)]
        exact Ev.now _
  | succ j ih =>
    intro p o hp hpj hoj
    obtain ⟨v, h3, h4, hv⟩ := pick_ev L hL p 8 hp (by omega) (by omega)
    have hz := rdOf_small [(⟨#[97]⟩ : ByteArray), (⟨#[98]⟩ : ByteArray), (⟨#[32]⟩ : ByteArray), (⟨#[10]⟩ : ByteArray), (⟨#[34]⟩ : ByteArray), (⟨#[92]⟩ : ByteArray), (⟨#[35]⟩ : ByteArray), (⟨#[120]⟩ : ByteArray)] 1 (by decide) v
    obtain ⟨R, q, r1, r2, r3, hR⟩ := ih (p + 1) (o ++ rdOf ByteArray.empty [(⟨#[97]⟩ : ByteArray), (⟨#[98]⟩ : ByteArray), (⟨#[32]⟩ : ByteArray), (⟨#[10]⟩ : ByteArray), (⟨#[34]⟩ : ByteArray), (⟨#[92]⟩ : ByteArray), (⟨#[35]⟩ : ByteArray), (⟨#[120]⟩ : ByteArray)] v) (by omega) (by omega) (by rw [ByteArray.size_append]; omega)
    rw [ByteArray.size_append] at r1
    refine ⟨R, q, by omega, by omega, by omega, ?_⟩
    refine Ev.step (fun k => by rw [spec_l20Plain.l0]) ?_
    simp only [if_pos (show ((j + 1 : Nat) : Int) > 0 by omega), Option.bind_some]
    refine ev_bind hv ?_
    simp only [if_pos h3, List.length_cons, List.length_nil]
    simp only [if_pos (show v < ((0 + 1 + 1 + 1 + 1 + 1 + 1 + 1 + 1 : Nat) : Int) by omega)]
    simp only [if_pos (show o.size + (rdOf ByteArray.empty [(⟨#[97]⟩ : ByteArray), (⟨#[98]⟩ : ByteArray), (⟨#[32]⟩ : ByteArray), (⟨#[10]⟩ : ByteArray), (⟨#[34]⟩ : ByteArray), (⟨#[92]⟩ : ByteArray), (⟨#[35]⟩ : ByteArray), (⟨#[120]⟩ : ByteArray)] v).size ≤ 9223372036854775807 by omega),
      show wrap64 (((j + 1 : Nat) : Int) - 1) = (j : Int) by rw [w64 (by omega) (by omega)]; omega]
    exact hR
theorem plain_ev (L : List Int) (hL : Bys L) (p n : Int) (hp : 0 ≤ p) (hp' : p ≤ 1000) (hn : 0 ≤ n) (hn' : n ≤ 1000000) :
    ∃ R q, R.size ≤ 10 ∧ p ≤ q ∧ q ≤ p + 20 ∧ Ev (fun k => spec_l20Plain.f k L p n) (R, q) := by
  obtain ⟨v, h3, h4, hv⟩ := pick_ev L hL p 9 hp (by omega) (by omega)
  obtain ⟨j, rfl⟩ := Int.eq_ofNat_of_zero_le h3
  obtain ⟨R, q, r1, r2, r3, hR⟩ := plain_l L hL n hn hn' j (p + 1) (⟨#[]⟩ : ByteArray) (by omega) (by omega) (by show 0 + j ≤ _; omega)
  refine ⟨R, q, ?_, by omega, by omega, ?_⟩
  · have : (⟨#[]⟩ : ByteArray).size = 0 := rfl
    omega
  · unfold spec_l20Plain.f
    exact ev_bind hv hR

theorem in_eq (x : Int) : impl_in.f x 32 126 = some (decide (32 ≤ x) && decide (x ≤ 126)) := by
  unfold impl_in.f
  by_cases h : x ≥ 32
  · rw [if_pos h, decide_eq_true h]; rfl
  · rw [if_neg h, decide_eq_false h]; rfl
theorem impl_tv_l (s : ByteArray) (hs : s.size ≤ 140737488351232) : ∀ (l : List Int) (i : Nat), (bytesOf s).drop i = l → i ≤ s.size →
    Ev (fun k => impl_TextValid.l0 k s (i : Int)) (l.all okb && decide ((bytesOf s).length ≤ 20000)) := by
  intro l
  induction l with
  | nil =>
    intro i hl hi
    have hn : s.size = i := by
      have := List.drop_eq_nil_iff.1 hl
      rw [bytesOf_length] at this; omega
    refine Ev.step (fun k => by rw [impl_TextValid.l0]) (ev_const fun k => ?_)
    rw [if_neg (by omega), bytesOf_length]; simp; omega
  | cons x l ih =>
    intro i hl hi
    have hlt : i < s.size := by
      rcases Nat.lt_or_ge i s.size with h | h
      · exact h
      · rw [List.drop_eq_nil_iff.2 (by rw [bytesOf_length]; exact h)] at hl; cases hl
    have hd := drop_cons (bytesOf s) i (by rw [bytesOf_length]; exact hlt)
    rw [hd] at hl
    obtain ⟨hx, hl'⟩ := List.cons.inj hl
    have hr := getD_range s i
    have hb := bt_nat s i
    rw [hx] at hb hr
    have h1 := ih (i + 1) hl' (by omega)
    refine Ev.step (fun k => by rw [impl_TextValid.l0]) ?_
    simp only [hb, w64s (show i + 1 < 9223372036854775808 by omega), w64 (n := x) (by omega) (by omega), in_eq, Option.bind_some, show (i : Int) < (s.size : Int) by omega, show (0 : Int) ≤ (i : Int) by omega, if_true]
    by_cases h10 : x = 10
    · subst h10
      simp only [if_true, List.all_cons, okb_ten, Bool.true_and]; exact h1
    · simp only [h10, if_false, List.all_cons, okb_in x h10]
      cases hq : (decide (32 ≤ x) && decide (x ≤ 126))
      · simp; exact Ev.now _
      · simp; simpa using h1
theorem impl_tv (s : ByteArray) (hs : s.size ≤ 140737488351232) : Ev (fun k => impl_TextValid.f k s) (tv (bytesOf s)) := by
  have := impl_tv_l s hs (bytesOf s) 0 rfl (by omega)
  exact this

theorem alive_ev : Ev (fun k => laws_alive.f k) true := by
  unfold laws_alive.f
  refine ev_bind (impl_tv (⟨#[97]⟩ : ByteArray) (by decide)) ?_
  have : tv (bytesOf (⟨#[97]⟩ : ByteArray)) = true := by decide
  rw [this]
  exact Ev.now _

theorem nv_dot_true : ∀ (l m : List Int) (n : Nat), nv n l = true → nv n (l ++ 46 :: m) = nv 0 m
  | [], m, n, h => by
    rw [nv] at h
    rw [List.nil_append, nv, if_pos ⟨rfl, of_decide_eq_true h⟩]
  | x :: l, m, n, h => by
    rw [nv] at h
    rw [List.cons_append, nv]
    by_cases hx : x = 46 ∧ 0 < n
    · rw [if_pos hx] at h ⊢
      exact nv_dot_true l m 0 h
    · rw [if_neg hx] at h ⊢
      simp only [Bool.and_eq_true] at h
      rw [h.1.1, h.1.2, nv_dot_true l m _ h.2]; rfl
theorem nv_dot_end : ∀ (l : List Int) (n : Nat), nv n (l ++ [46]) = false
  | [], n => by
    rw [List.nil_append, nv]
    by_cases h0 : 0 < n
    · rw [if_pos ⟨rfl, h0⟩]; rfl
    · rw [if_neg (fun e => h0 e.2), okat_dot]; rfl
  | x :: l, n => by
    rw [List.cons_append, nv]
    by_cases hx : x = 46 ∧ 0 < n
    · rw [if_pos hx]; exact nv_dot_end l 0
    · rw [if_neg hx, nv_dot_end l (n + 1), Bool.and_false]
theorem toList_len (s : ByteArray) : s.toList.length = s.size := by rw [toList_data]; rfl
theorem nameV_part (s : ByteArray) (h : nameV s = true) : nameV (s ++ (⟨#[46, 112, 97, 114, 116]⟩ : ByteArray)) = true := by
  unfold nameV at h ⊢
  simp only [Bool.and_eq_true] at h
  have h0 := h.1.1
  have hne : 1 ≤ s.size := by
    rcases Nat.lt_or_ge 0 s.size with h1 | h1
    · exact h1
    · have : bytesOf s = [] := List.length_eq_zero_iff.1 (by rw [bytesOf_length]; omega)
      rw [this] at h0
      simp [nv] at h0
  have hz : (s ++ (⟨#[46, 112, 97, 114, 116]⟩ : ByteArray)).toList.length = s.size + 5 := by rw [toList_len, ByteArray.size_append]; rfl
  have hb : bytesOf (s ++ (⟨#[46, 112, 97, 114, 116]⟩ : ByteArray)) = bytesOf s ++ 46 :: [112, 97, 114, 116] := by rw [bytesOf_app]; rfl
  rw [hb, nv_dot_true _ _ 0 h0]
  have e : nv 0 [112, 97, 114, 116] = true := by decide
  rw [e, Bool.true_and]
  rw [bne_iff_ne.mpr (fun e => by have h5 := congrArg List.length e; rw [hz] at h5; simp only [List.length_cons, List.length_nil] at h5; omega), bne_iff_ne.mpr (fun e => by have h5 := congrArg List.length e; rw [hz] at h5; simp only [List.length_cons, List.length_nil] at h5; omega)]; rfl
theorem nameV_dot (s : ByteArray) : nameV (s ++ (⟨#[46]⟩ : ByteArray)) = false := by
  unfold nameV
  have hb : bytesOf (s ++ (⟨#[46]⟩ : ByteArray)) = bytesOf s ++ [46] := by rw [bytesOf_app]; rfl
  rw [hb, nv_dot_end]; rfl
theorem nameV_true : nameV (⟨#[116, 114, 117, 101]⟩ : ByteArray) = false := by
  unfold nameV
  have e : ((⟨#[116, 114, 117, 101]⟩ : ByteArray).toList != ([116, 114, 117, 101] : List UInt8)) = false := by rw [toList_data]; rfl
  rw [e, Bool.and_false]; rfl
def nms1 : List ByteArray := [(⟨#[]⟩ : ByteArray), (⟨#[65]⟩ : ByteArray), (⟨#[49, 97]⟩ : ByteArray), (⟨#[95, 97]⟩ : ByteArray), (⟨#[97, 46]⟩ : ByteArray), (⟨#[46, 97]⟩ : ByteArray), (⟨#[97, 46, 46, 98]⟩ : ByteArray), (⟨#[116, 114, 117, 101]⟩ : ByteArray), (⟨#[102, 97, 108, 115, 101]⟩ : ByteArray), (⟨#[97, 98, 99, 100, 101, 102, 103, 104, 105, 106, 107, 108, 109]⟩ : ByteArray), (⟨#[97, 32, 98]⟩ : ByteArray), (⟨#[97, 45, 98]⟩ : ByteArray)]
def nms2 : List ByteArray := [(⟨#[97]⟩ : ByteArray), (⟨#[98]⟩ : ByteArray), (⟨#[99]⟩ : ByteArray), (⟨#[120, 49]⟩ : ByteArray), (⟨#[108, 111, 110, 103, 95, 110, 97, 109, 101]⟩ : ByteArray), (⟨#[113, 46, 97]⟩ : ByteArray), (⟨#[113, 46, 98]⟩ : ByteArray), (⟨#[113, 46, 115, 46, 97]⟩ : ByteArray), (⟨#[97, 98, 99, 100, 101, 102, 103, 104, 105, 106, 107, 108]⟩ : ByteArray), (⟨#[116, 114, 117, 116, 104]⟩ : ByteArray)]
def nmi : List Int := [0, 0, 1, 1, 2, 2, 3, 4, 5, 6, 7, 8, 9]
theorem name_p (L : List Int) (hL : Bys L) (p n : Int) (hp : 0 ≤ p) (hp' : p ≤ 1000000) (hn : 0 ≤ n) (hn' : n ≤ 1000000) :
    EvP (fun k => spec_l20Name.f k L p n) (fun r => r.1.size ≤ 13 ∧ p ≤ r.2 ∧ r.2 ≤ p + 2) := by
  unfold spec_l20Name.f
  refine EvP.bind (odd_p L hL p n hp (by omega) hn hn') ?_
  rintro ⟨b, q⟩ ⟨h1, h2⟩
  simp only at h1 h2 ⊢
  cases b with
  | true =>
    simp only [if_true, Option.bind_some]
    refine EvP.bind (pick_p L hL q 12 (by omega) (by omega) (by omega)) ?_
    rintro ⟨v, q2⟩ ⟨h3, h4, h5⟩
    simp only at h3 h4 h5 ⊢
    have hz := rdOf_small nms1 13 (by decide) v
    simp only [if_pos h3, List.length_cons, List.length_nil]
    simp only [if_pos (show v < ((0 + 1 + 1 + 1 + 1 + 1 + 1 + 1 + 1 + 1 + 1 + 1 + 1 : Nat) : Int) by omega)]
    exact EvP.now ⟨hz, by simp only; omega, by simp only; omega⟩
  | false =>
    simp only [Bool.false_eq_true, if_false, Option.bind_some]
    refine EvP.bind (pick_p L hL q 13 (by omega) (by omega) (by omega)) ?_
    rintro ⟨v, q2⟩ ⟨h3, h4, h5⟩
    simp only at h3 h4 h5 ⊢
    have hi := rd_all (P := fun y => 0 ≤ y ∧ y < 10) nmi (by decide) v h3 (by show v < 13; exact h4)
    have hz := rdOf_small nms2 13 (by decide) (rd nmi v)
    simp only [if_pos h3, List.length_cons, List.length_nil]
    simp only [if_pos (show v < ((0 + 1 + 1 + 1 + 1 + 1 + 1 + 1 + 1 + 1 + 1 + 1 + 1 + 1 : Nat) : Int) by omega)]
    show EvP (fun k => if 0 ≤ rd nmi v then (if rd nmi v < ((0 + 1 + 1 + 1 + 1 + 1 + 1 + 1 + 1 + 1 + 1 : Nat) : Int) then some (rdOf ByteArray.empty nms2 (rd nmi v), q2) else none) else none) _
    simp only [if_pos hi.1, if_pos (show rd nmi v < ((0 + 1 + 1 + 1 + 1 + 1 + 1 + 1 + 1 + 1 + 1 : Nat) : Int) by have := hi.2; omega)]
    exact EvP.now ⟨hz, by simp only; omega, by simp only; omega⟩
theorem drawName (l : List Int) (hw : ∀ x ∈ l, (Lit.int .u8 x).wf = true) : EvP (fun k => spec_DrawNameValid.f k l) (fun r => r.size ≤ 13) := by
  obtain ⟨L, hL, hop⟩ := open_ev l hw
  unfold spec_DrawNameValid.f
  rw [hop]
  simp only [Option.bind_some]
  refine EvP.bind (name_p L hL 0 2 (by omega) (by omega) (by omega) (by omega)) ?_
  rintro ⟨s, q⟩ ⟨h1, _, _⟩
  exact EvP.now h1
theorem FnNameValid : laws_FnNameValid.Pure := by
  intro l _ _ hw
  apply Ev.rounds
  unfold laws_FnNameValid.f
  by_cases h : (l.length : Int) > 1048576
  · simp only [if_pos h]; exact Ev.now _
  · simp only [if_neg h]
    obtain ⟨s, hs, hd⟩ := drawName l hw
    refine ev_bind hd (ev_bind (impl_nv s (by omega)) (ev_bind (spec_nv s (by omega)) ?_))
    simp only [bne_self_eq_false, Bool.false_eq_true, if_false]
    have z1 : (s ++ (⟨#[46]⟩ : ByteArray)).size = s.size + 1 := by rw [ByteArray.size_append]; rfl
    have z2 : (s ++ (⟨#[46, 112, 97, 114, 116]⟩ : ByteArray)).size = s.size + 5 := by rw [ByteArray.size_append]; rfl
    have rest : Ev (fun k => if s.size + 1 ≤ 9223372036854775807 then ((impl_NameValid.f k (s ++ (⟨#[46]⟩ : ByteArray))).bind fun t335 => (if t335 = true then (none) else ((impl_NameValid.f k (⟨#[116, 114, 117, 101]⟩ : ByteArray)).bind fun t336 => (if t336 = true then (none) else ((laws_alive.f k).bind fun t337 => (some t337)))))) else (none)) true := by
      simp only [if_pos (show s.size + 1 ≤ 9223372036854775807 by omega)]
      refine ev_bind (impl_nv _ (by omega)) ?_
      simp only [nameV_dot, Bool.false_eq_true, if_false]
      refine ev_bind (impl_nv _ (by show 4 ≤ _; omega)) ?_
      simp only [nameV_true, Bool.false_eq_true, if_false]
      exact ev_bind alive_ev (Ev.now _)
    cases hv : nameV s with
    | false =>
      simp only [Bool.false_eq_true, if_false]
      exact rest
    | true =>
      simp only [if_true, if_pos (show s.size + 5 ≤ 9223372036854775807 by omega)]
      refine ev_bind (impl_nv _ (by omega)) ?_
      simp only [nameV_part s hv, if_true]
      exact rest

end Go.Proofs.YteloagahkphiaaaDoor.Pure
namespace Go.Proofs.YteloagahkphiaaaDoor.PrintWords
/-- The word that the printed row names: a slice of whole numbers is no longer than its weight allows. -/
theorem sized_ints {H : Type} {enc : TypeId × Value → H} {P : Program} {W : World} {base : Nat} {spare : Nat → Bool} {held : Bool} {t e : TypeId} {k : IntKind} {a : Option Addr} {len cap : Nat} {d : DataW H} {ps : List MemPlace} {ts : List TypeId} {ds : List (DataW H)} {j : Nat}
    (hsz : (DataW.weightsEach P ts ds).all (· ≤ reachBytes) = true) (ht : ts[j]? = some t) (hd : ds[j]? = some d) (hu : P.underlying t = some (.slice e)) (he : P.underlying e = some (.int k)) (hc : P.cellsOf e = 1) {B : Nat} (hB : P.bytesOf e = B)
    (h : DataW.Trod enc P W base spare held t (.slice a len cap) d ps) : len * B ≤ 140737488351232 :=
  Go.Proofs.YteloagahkphiaaaDoorW.PrintWords.sized_ints hsz ht hd hu he hc hB h
end Go.Proofs.YteloagahkphiaaaDoor.PrintWords
