/- The pure statement of the law FnLinesOf holds: for every input that meets the bounds in the statement, the printed function of the law, given enough rounds, answers true. -/
import Derived.Test.YteloagahkphiaaaDoorPLinesx5
import Derived.Test.YteloagahkphiaaaDoorWSized
namespace Go.Proofs.YteloagahkphiaaaDoor.Pure
open Go.RowKit Go.Proofs.YteloagahkphiaaaDoor.PLines Go.Proofs.YteloagahkphiaaaDoorW.PrintWords Go.Proofs.YteloagahkphiaaaDoorW.PrintLast Go.Proofs.YteloagahkphiaaaDoorW.PrintMore Go.Proofs.YteloagahkphiaaaDoor.Hand
set_option linter.unusedVariables false
set_option linter.unusedSimpArgs false

theorem w64 {n : Int} (h0 : -9223372036854775808 ≤ n) (h1 : n < 9223372036854775808) : wrap64 n = n := by
  unfold wrap64; omega
theorem w64n {n : Nat} (h1 : n < 9223372036854775808) : wrap64 (n : Int) = (n : Int) := w64 (by omega) (by omega)
theorem w64s {n : Nat} (h1 : n + 1 < 9223372036854775808) : wrap64 ((n : Int) + 1) = ((n + 1 : Nat) : Int) := by
  rw [w64 (by omega) (by omega)]; rfl
theorem ev_const {α : Type} {g : Nat → Option α} {r : α} (h : ∀ k, g k = some r) : Ev g r := ⟨0, fun k _ => h k⟩
theorem ev_bind {α β : Type} {g : Nat → Option α} {f : Nat → α → Option β} {a : α} {r : β} (h : Ev g a) (k : Ev (fun n => f n a) r) :
    Ev (fun n => (g n).bind (fun x => f n x)) r := Ev.bind h k
theorem bt_nat (s : ByteArray) (i : Nat) : bt s (i : Int) = (bytesOf s).getD i 0 := by
  rw [← rd_bytesOf]; simp [rd]
theorem drop_cons (l : List Int) (i : Nat) (h : i < l.length) : l.drop i = l.getD i 0 :: l.drop (i + 1) := by
  rw [List.drop_eq_getElem_cons h]; simp [List.getD_eq_getElem?_getD, h]
theorem bytesOf_range (s : ByteArray) : ∀ x ∈ bytesOf s, 0 ≤ x ∧ x ≤ 255 := by
  intro x hx
  unfold bytesOf at hx
  obtain ⟨b, _, rfl⟩ := List.mem_map.1 hx
  have := b.toNat_lt
  omega
theorem getD_range (s : ByteArray) (i : Nat) : 0 ≤ (bytesOf s).getD i 0 ∧ (bytesOf s).getD i 0 ≤ 255 := by
  rw [← bt_nat]; exact bt_range _ _
theorem map_byte_inj : ∀ (a b : List UInt8), a.map (fun b => (b.toNat : Int)) = b.map (fun b => (b.toNat : Int)) → a = b
  | [], [], _ => rfl
  | [], _ :: _, h => by simp at h
  | _ :: _, [], h => by simp at h
  | x :: a, y :: b, h => by
    simp only [List.map_cons, List.cons.injEq] at h
    have h1 : x = y := UInt8.toNat_inj.1 (by omega)
    rw [h1, map_byte_inj a b h.2]
theorem bytesOf_inj {a b : ByteArray} (h : bytesOf a = bytesOf b) : a = b := by
  have := map_byte_inj _ _ h
  apply ByteArray.ext
  exact Array.toList_inj.1 this
theorem bytesOf_app (a b : ByteArray) : bytesOf (a ++ b) = bytesOf a ++ bytesOf b := by
  unfold bytesOf
  rw [ByteArray.data_append]; simp
theorem bytesOf_cut (s : ByteArray) (i j : Nat) : bytesOf (s.extract i j) = ((bytesOf s).take j).drop i := by
  unfold bytesOf
  rw [ByteArray.data_extract]
  simp [List.drop_take]
theorem bytesOf_str (xs : List Int) (h : ∀ x ∈ xs, 0 ≤ x ∧ x ≤ 255) : bytesOf (strOfNums xs) = xs := by
  unfold bytesOf strOfNums
  simp only [List.map_map]
  conv => rhs; rw [← List.map_id xs]
  apply List.map_congr_left
  intro x hx
  have := h x hx
  have e : x.toNat % 256 = x.toNat := Nat.mod_eq_of_lt (by omega)
  simp only [Function.comp, UInt8.toNat_ofNat', id]
  omega
theorem str_bytes (s : ByteArray) : strOfNums (bytesOf s) = s :=
  bytesOf_inj (bytesOf_str _ (bytesOf_range s))
theorem toList_data (a : ByteArray) : a.toList = a.data.toList := ByteArray.toList_eq a
theorem toList_iff {a b : ByteArray} : a.toList = b.toList ↔ bytesOf a = bytesOf b := by
  constructor
  · intro h
    unfold bytesOf
    rw [← toList_data, ← toList_data, h]
  · intro h
    rw [bytesOf_inj h]
theorem size_bytes (s : ByteArray) : s.size = (bytesOf s).length := (bytesOf_length s).symm

theorem index_mem (c : UInt8) : ∀ l : List UInt8, (0 ≤ Lib.indexByte l c) ↔ c ∈ l
  | [] => by simp [Lib.indexByte]
  | b :: l => by
    have ih := index_mem c l
    have hg := Lib.indexByte_ge l c
    rw [Lib.indexByte]
    by_cases h : (b == c) = true
    · rw [if_pos h]
      have := eq_of_beq h
      subst this
      simp
    · rw [if_neg h]
      have hne : ¬ c = b := fun e => h (by rw [e]; exact beq_self_eq_true _)
      by_cases h2 : (Lib.indexByte l c == -1) = true
      · rw [if_pos h2]
        have e := eq_of_beq h2
        rw [e] at ih
        simp only [List.mem_cons, hne, false_or]
        constructor
        · intro h; omega
        · intro h; have := ih.2 h; omega
      · rw [if_neg h2]
        have e : Lib.indexByte l c ≠ -1 := fun e => h2 (by rw [e]; rfl)
        simp only [List.mem_cons, hne, false_or]
        constructor
        · intro h; exact ih.1 (by omega)
        · intro h; have := ih.2 h; omega
theorem mem_bytes (s : ByteArray) (c : UInt8) : c ∈ s.data.toList ↔ (bytesOf s).contains (c.toNat : Int) = true := by
  unfold bytesOf
  rw [List.contains_iff_mem]
  constructor
  · intro h; exact List.mem_map.2 ⟨c, h, rfl⟩
  · intro h
    obtain ⟨b, hb, e⟩ := List.mem_map.1 h
    have : b = c := UInt8.toNat_inj.1 (by omega)
    rw [← this]; exact hb

theorem rdOf_nat {α : Type} (d : α) (l : List α) (j : Nat) : rdOf d l (j : Int) = l.getD j d := by unfold rdOf; rw [Int.toNat_natCast]

/-! splitting at one byte -/
def splitA (c : Int) : List Int → List Int → List (List Int)
  | cur, [] => [cur]
  | cur, x :: l => if x = c then cur :: splitA c [] l else splitA c (cur ++ [x]) l
theorem splitA_ne (c : Int) : ∀ (l cur : List Int), ∃ p ps, splitA c cur l = p :: ps
  | [], cur => ⟨cur, [], rfl⟩
  | x :: l, cur => by
    rw [splitA]
    by_cases h : x = c
    · rw [if_pos h]; exact ⟨_, _, rfl⟩
    · rw [if_neg h]; exact splitA_ne c l _
/-- how many bytes there are ahead of the first one that is c. -/
def fst (c : Int) : List Int → Nat
  | [] => 0
  | x :: l => if x = c then 0 else fst c l + 1
def cnt (c : Int) : List Int → Nat
  | [] => 0
  | x :: l => if x = c then cnt c l + 1 else cnt c l
theorem cnt_le (c : Int) : ∀ l : List Int, cnt c l ≤ l.length
  | [] => Nat.le_refl _
  | x :: l => by
    have := cnt_le c l
    rw [cnt, List.length_cons]
    split <;> omega
theorem fst_lt (c : Int) : ∀ l : List Int, 1 ≤ cnt c l → fst c l < l.length
  | [], h => by simp [cnt] at h
  | x :: l, h => by
    rw [fst, List.length_cons]
    by_cases hx : x = c
    · rw [if_pos hx]; omega
    · rw [if_neg hx]
      rw [cnt, if_neg hx] at h
      have := fst_lt c l h
      omega
theorem cnt_drop (c : Int) : ∀ l : List Int, 1 ≤ cnt c l → cnt c (l.drop (fst c l + 1)) + 1 = cnt c l
  | [], h => by simp [cnt] at h
  | x :: l, h => by
    by_cases hx : x = c
    · rw [fst, if_pos hx, cnt, if_pos hx]; rfl
    · rw [cnt, if_neg hx] at h ⊢
      rw [fst, if_neg hx, List.drop_succ_cons]
      exact cnt_drop c l h
theorem splitA_none (c : Int) : ∀ (l cur : List Int), cnt c l = 0 → splitA c cur l = [cur ++ l]
  | [], cur, _ => by rw [splitA, List.append_nil]
  | x :: l, cur, h => by
    rw [cnt] at h
    by_cases hx : x = c
    · rw [if_pos hx] at h; omega
    · rw [if_neg hx] at h
      rw [splitA, if_neg hx, splitA_none c l _ h, List.append_assoc]; rfl
theorem splitA_some (c : Int) : ∀ (l cur : List Int), 1 ≤ cnt c l → splitA c cur l = (cur ++ l.take (fst c l)) :: splitA c [] (l.drop (fst c l + 1))
  | [], cur, h => by simp [cnt] at h
  | x :: l, cur, h => by
    by_cases hx : x = c
    · rw [splitA, if_pos hx, fst, if_pos hx]; simp
    · rw [cnt, if_neg hx] at h
      rw [splitA, if_neg hx, splitA_some c l _ h, fst, if_neg hx, List.take_succ_cons, List.drop_succ_cons, List.append_assoc]; rfl
theorem index_fst (c : UInt8) : ∀ l : List UInt8, 1 ≤ cnt (c.toNat : Int) (l.map fun b => (b.toNat : Int)) → Lib.indexByte l c = (fst (c.toNat : Int) (l.map fun b => (b.toNat : Int)) : Int)
  | [], h => by simp [cnt] at h
  | b :: l, h => by
    rw [Lib.indexByte, List.map_cons, fst]
    rw [List.map_cons, cnt] at h
    by_cases hb : (b == c) = true
    · have e := eq_of_beq hb
      rw [if_pos hb, if_pos (by rw [e])]; rfl
    · have hne : ¬ ((b.toNat : Int) = (c.toNat : Int)) := fun e => hb (by rw [UInt8.toNat_inj.1 (show b.toNat = c.toNat by omega)]; exact beq_self_eq_true _)
      rw [if_neg hne] at h
      have ih := index_fst c l h
      rw [if_neg hb, if_neg hne]
      have hm : ¬ ((Lib.indexByte l c == -1) = true) := by
        rw [ih]; intro e
        have := eq_of_beq e
        omega
      rw [if_neg hm, ih]; omega
theorem count_cnt (c : UInt8) : ∀ l : List UInt8, (Lib.countByte l c : Nat) = cnt (c.toNat : Int) (l.map fun b => (b.toNat : Int))
  | [] => rfl
  | b :: l => by
    have ih := count_cnt c l
    rw [List.map_cons, cnt, ← ih]
    unfold Lib.countByte
    by_cases hb : b = c
    · rw [if_pos (by rw [hb]), hb]; simp
    · have hne : ¬ ((b.toNat : Int) = (c.toNat : Int)) := fun e => hb (UInt8.toNat_inj.1 (show b.toNat = c.toNat by omega))
      rw [if_neg hne]; simp [hb]
theorem index_zero (c : UInt8) (l : List UInt8) (h : cnt (c.toNat : Int) (l.map fun b => (b.toNat : Int)) = 0) : Lib.indexByte l c < 0 := by
  rcases Int.lt_or_le (Lib.indexByte l c) 0 with h1 | h1
  · exact h1
  · have := (index_mem c l).1 h1
    have : ∀ l : List UInt8, c ∈ l → 1 ≤ cnt (c.toNat : Int) (l.map fun b => (b.toNat : Int)) := by
      intro l
      induction l with
      | nil => intro h; cases h
      | cons b l ih =>
        intro h
        rw [List.map_cons, cnt]
        by_cases hb : (b.toNat : Int) = (c.toNat : Int)
        · rw [if_pos hb]; omega
        · rw [if_neg hb]
          rcases List.mem_cons.1 h with e | h
          · exact absurd (by rw [e]) hb
          · exact ih h
    have := this l ‹c ∈ l›
    omega
/-- the parts of a text. -/
def splitS (c : Int) : Nat → ByteArray → List ByteArray
  | 0, s => [s]
  | n + 1, s => s.extract 0 (fst c (bytesOf s)) :: splitS c n (s.extract (fst c (bytesOf s) + 1) s.size)
theorem bytesOf_rest (s : ByteArray) (i : Nat) : bytesOf (s.extract i s.size) = (bytesOf s).drop i := by
  rw [bytesOf_cut, List.take_of_length_le (by rw [bytesOf_length]; exact Nat.le_refl _)]
theorem splitS_bytes (c : Int) : ∀ (n : Nat) (s : ByteArray), cnt c (bytesOf s) = n → (splitS c n s).map bytesOf = splitA c [] (bytesOf s)
  | 0, s, h => by rw [splitA_none c _ _ h]; rfl
  | n + 1, s, h => by
    rw [splitA_some c _ _ (by omega), splitS, List.map_cons, splitS_bytes c n _ (by rw [bytesOf_rest]; have := cnt_drop c (bytesOf s) (by omega); omega), bytesOf_rest, bytesOf_cut]
    rfl
theorem splitS_len (c : Int) : ∀ (n : Nat) (s : ByteArray), (splitS c n s).length = n + 1
  | 0, _ => rfl
  | n + 1, s => by rw [splitS, List.length_cons, splitS_len c n]
theorem split_l (s0 sep : ByteArray) (c : UInt8) (hsep : sep = (⟨#[c]⟩ : ByteArray)) (a2 : Int) (h2 : a2 = 0) (N : Nat) (hN : N ≤ 1099511627776) : ∀ (n : Nat) (s : ByteArray) (pre : List ByteArray), pre.length + n = N → cnt (c.toNat : Int) (bytesOf s) = n → s.size ≤ 1099511627776 →
    Ev (fun k => strings_genSplit.l0 k s sep a2 (N : Int) (pre ++ List.replicate (n + 1) (⟨#[]⟩ : ByteArray)) (pre.length : Int)) (pre ++ splitS (c.toNat : Int) n s) := by
  have hone : sep.size = 1 := by rw [hsep]; rfl
  have hget : sep.data.toList.getD 0 0 = c := by rw [hsep]; rfl
  have hset : ∀ (pre R : List ByteArray) (u v : ByteArray), (pre ++ u :: R).set pre.length v = pre ++ v :: R := by
    intro pre R u v
    rw [List.set_append_right _ _ (Nat.le_refl _), Nat.sub_self]; rfl
  intro n
  induction n with
  | zero =>
    intro s pre hp hc hs
    have hlen : (pre ++ List.replicate (0 + 1) (⟨#[]⟩ : ByteArray)).length = pre.length + 1 := by simp
    refine Ev.step (fun k => by rw [strings_genSplit.l0]) ?_
    have e1 : pre ++ List.replicate (0 + 1) (⟨#[]⟩ : ByteArray) = pre ++ (⟨#[]⟩ : ByteArray) :: [] := rfl
    simp only [hlen, if_neg (show ¬ (pre.length : Int) < (N : Int) by omega), if_pos (show (0 : Int) ≤ (pre.length : Int) by omega), if_pos (show (pre.length : Int) < ((pre.length + 1 : Nat) : Int) by omega), w64s (show pre.length + 1 < 9223372036854775808 by omega),
      if_pos (show (0 : Int) ≤ ((pre.length + 1 : Nat) : Int) by omega), if_pos (show ((pre.length + 1 : Nat) : Int) ≤ ((pre.length + 1 : Nat) : Int) by omega), Int.toNat_natCast]
    rw [e1, hset]
    have e2 : (pre ++ [s]).take (pre.length + 1) = pre ++ [s] := List.take_of_length_le (by simp)
    rw [e2]
    exact Ev.now _
  | succ n ih =>
    intro s pre hp hc hs
    have hlen : (pre ++ List.replicate (n + 1 + 1) (⟨#[]⟩ : ByteArray)).length = pre.length + (n + 2) := by simp
    have hf := fst_lt (c.toNat : Int) (bytesOf s) (by omega)
    rw [bytesOf_length] at hf
    have hi : strings_Index.f s sep = some ((fst (c.toNat : Int) (bytesOf s) : Nat) : Int) := by
      unfold strings_Index.f
      rw [if_pos hone, hget]
      congr 1
      exact index_fst c _ (by show 1 ≤ cnt _ (bytesOf s); omega)
    have hcd := cnt_drop (c.toNat : Int) (bytesOf s) (by omega)
    have h := ih (s.extract (fst (c.toNat : Int) (bytesOf s) + 1) s.size) (pre ++ [s.extract 0 (fst (c.toNat : Int) (bytesOf s))]) (by simp; omega) (by rw [bytesOf_rest]; omega) (by rw [ByteArray.size_extract]; omega)
    simp only [List.length_append, List.length_cons, List.length_nil, List.append_assoc, List.cons_append, List.nil_append, Nat.zero_add] at h
    rw [splitS]
    subst h2
    clear hcd hc ih hget
    generalize fst (c.toNat : Int) (bytesOf s) = f at hf hi h ⊢
    refine Ev.step (fun k => by rw [strings_genSplit.l0]) ?_
    have w1 : wrap64 ((f : Int) + 0) = (f : Int) := by rw [Int.add_zero, w64n (by omega)]
    have w2 : wrap64 ((f : Int) + ((1 : Nat) : Int)) = ((f + 1 : Nat) : Int) := w64s (by omega)
    have e1 : pre ++ List.replicate (n + 1 + 1) (⟨#[]⟩ : ByteArray) = pre ++ (⟨#[]⟩ : ByteArray) :: List.replicate (n + 1) (⟨#[]⟩ : ByteArray) := rfl
    have g1 : (pre.length : Int) < (N : Int) := by omega
    have g2 : ¬ (f : Int) < 0 := by omega
    have g3 : (0 : Int) ≤ (f : Int) := by omega
    have g4 : (f : Int) ≤ (s.size : Int) := by omega
    have g5 : (0 : Int) ≤ (pre.length : Int) := by omega
    have g6 : (pre.length : Int) < ((pre.length + (n + 2) : Nat) : Int) := by omega
    have g7 : (0 : Int) ≤ ((f + 1 : Nat) : Int) := by omega
    have g8 : ((f + 1 : Nat) : Int) ≤ (s.size : Int) := by omega
    have g9 : wrap64 ((pre.length : Int) + 1) = ((pre.length + 1 : Nat) : Int) := w64s (by omega)
    simp only [hlen, if_pos g1]
    refine ev_bind (a := (f : Int)) (ev_const fun _ => hi) ?_
    simp only [hone, w1, w2, if_neg g2, if_pos g3, if_pos g4, if_pos g5, if_pos g6, if_pos g7, if_pos g8, g9, Int.toNat_natCast]
    rw [e1, hset]
    exact h
theorem split_ev (s : ByteArray) (c : UInt8) (hs : s.size ≤ 1099511627776) : Ev (fun k => strings_Split.f k s (⟨#[c]⟩ : ByteArray)) (splitS (c.toNat : Int) (cnt (c.toNat : Int) (bytesOf s)) s) := by
  unfold strings_Split.f strings_genSplit.f
  have hne : ¬ ((⟨#[c]⟩ : ByteArray).toList = ([] : List UInt8)) := by rw [toList_data]; simp
  have hc : strings_Count.f s (⟨#[c]⟩ : ByteArray) = some ((cnt (c.toNat : Int) (bytesOf s) : Nat) : Int) := by
    unfold strings_Count.f
    rw [if_pos (show (⟨#[c]⟩ : ByteArray).size = 1 from rfl)]
    congr 1
    exact congrArg Int.ofNat (count_cnt c s.data.toList)
  have hle := cnt_le (c.toNat : Int) (bytesOf s)
  rw [bytesOf_length] at hle
  have key := fun n hn hc => split_l s (⟨#[c]⟩ : ByteArray) c rfl 0 rfl n hn n s [] (by simp) hc hs
  have kc : ∀ n, n = cnt (c.toNat : Int) (bytesOf s) → Ev (fun k => strings_genSplit.l0 k s (⟨#[c]⟩ : ByteArray) 0 (n : Int) ([] ++ List.replicate (n + 1) (⟨#[]⟩ : ByteArray)) (([] : List ByteArray).length : Int)) ([] ++ splitS (c.toNat : Int) n s) := fun n hn => key n (by omega) hn.symm
  have kd := kc _ rfl
  clear key kc
  generalize cnt (c.toNat : Int) (bytesOf s) = n at hc hle kd ⊢
  have g1 : wrap64 ((n : Int) + 1) = ((n + 1 : Nat) : Int) := w64s (by omega)
  have g2 : wrap64 ((s.size : Int) + 1) = ((s.size + 1 : Nat) : Int) := w64s (by omega)
  simp only [if_neg (show ¬ (-1 : Int) = 0 by omega), if_neg hne, if_pos (show (-1 : Int) < 0 by omega), hc, Option.bind_some, g1]
  refine ev_bind (a := splitS (c.toNat : Int) n s) ?_ (Ev.now _)
  refine Ev.step (fun k => by rw [strings_genSplit.j0]) ?_
  have hmn : mn ((n + 1 : Nat) : Int) ((s.size + 1 : Nat) : Int) = ((n + 1 : Nat) : Int) := by
    unfold mn; split <;> omega
  have g3 : (0 : Int) ≤ ((n + 1 : Nat) : Int) := by omega
  have g4 : n + 1 ≤ 17592186044416 := by omega
  have g5 : wrap64 (((n + 1 : Nat) : Int) - 1) = (n : Int) := by rw [w64 (by omega) (by omega)]; omega
  simp only [g2, hmn, if_pos g3, Int.toNat_natCast, if_pos g4, g5]
  exact kd

/-! texts: which bytes are plain -/
def okb (x : Int) : Bool := x == 10 || (decide (32 ≤ x) && decide (x ≤ 126))
def tv (l : List Int) : Bool := l.all okb && decide (l.length ≤ 20000)
theorem okb_ten : okb 10 = true := rfl
theorem okb_in (x : Int) (h : ¬ x = 10) : okb x = (decide (32 ≤ x) && decide (x ≤ 126)) := by
  unfold okb; rw [beq_eq_false_iff_ne.mpr h]; rfl

/-! lines -/
def linesL : List Int → List Int → List (List Int)
  | cur, [] => if cur = [] then [] else [cur]
  | cur, x :: l => if x = 10 then cur :: linesL [] l else linesL (cur ++ [x]) l
def endL (p : List (List Int)) : List (List Int) := if p.getLast? = some [] then p.dropLast else p
theorem endL_cons (c p : List Int) (ps : List (List Int)) : endL (c :: p :: ps) = c :: endL (p :: ps) := by
  unfold endL
  rw [List.getLast?_cons_cons, List.dropLast_cons_cons]
  split <;> rfl
theorem lines_split : ∀ (l cur : List Int), linesL cur l = endL (splitA 10 cur l)
  | [], cur => by
    rw [linesL, splitA]
    unfold endL
    by_cases h : cur = []
    · rw [if_pos h, h]; rfl
    · rw [if_neg h, if_neg (by simpa using h)]
  | x :: l, cur => by
    rw [linesL, splitA]
    by_cases h : x = 10
    · rw [if_pos h, if_pos h, lines_split l []]
      obtain ⟨p, ps, e⟩ := splitA_ne 10 l []
      rw [e, endL_cons]
    · rw [if_neg h, if_neg h]; exact lines_split l _
theorem map_bytes_inj : ∀ {xs ys : List ByteArray}, xs.map bytesOf = ys.map bytesOf → xs = ys
  | [], [], _ => rfl
  | [], y :: ys, h => by simp at h
  | x :: xs, [], h => by simp at h
  | x :: xs, y :: ys, h => by
    rw [List.map_cons, List.map_cons] at h
    obtain ⟨h1, h2⟩ := List.cons.inj h
    rw [bytesOf_inj h1, map_bytes_inj h2]
def partsB (s : ByteArray) : List ByteArray := splitS 10 (cnt 10 (bytesOf s)) s
theorem partsB_len (s : ByteArray) : (partsB s).length = cnt 10 (bytesOf s) + 1 := splitS_len _ _ _
theorem partsB_bytes (s : ByteArray) : (partsB s).map bytesOf = splitA 10 [] (bytesOf s) := splitS_bytes 10 _ s rfl
/-- the lines of a text. -/
def linesB (s : ByteArray) : List ByteArray :=
  if tv (bytesOf s) = true then (if ((partsB s).getD ((partsB s).length - 1) ByteArray.empty).toList = [] then (partsB s).take ((partsB s).length - 1) else partsB s) else []
theorem toList_nil (b : ByteArray) : b.toList = [] ↔ bytesOf b = [] := by
  rw [toList_data]; unfold bytesOf; simp
theorem linesB_bytes (s : ByteArray) (h : tv (bytesOf s) = true) : (linesB s).map bytesOf = linesL [] (bytesOf s) := by
  rw [lines_split, ← partsB_bytes]
  unfold linesB endL
  rw [if_pos h]
  have hl := partsB_len s
  generalize partsB s = P at hl ⊢
  have hg : (P.map bytesOf).getLast? = some (bytesOf (P.getD (P.length - 1) ByteArray.empty)) := by
    rw [List.getLast?_eq_getElem?, List.length_map, List.getElem?_map, List.getD_eq_getElem?_getD]
    rw [List.getElem?_eq_getElem (show P.length - 1 < P.length by omega)]; rfl
  rw [hg]
  by_cases he : (P.getD (P.length - 1) ByteArray.empty).toList = []
  · rw [if_pos he, if_pos (by rw [(toList_nil _).1 he]), List.map_take, List.dropLast_eq_take, List.length_map]
  · rw [if_neg he, if_neg (fun e => he ((toList_nil _).2 (Option.some.inj e)))]
theorem linesB_len (s : ByteArray) : (linesB s).length ≤ s.size + 1 := by
  have hl := partsB_len s
  have hc := cnt_le 10 (bytesOf s)
  rw [bytesOf_length] at hc
  unfold linesB
  split
  · split
    · rw [List.length_take]; omega
    · omega
  · simp
theorem linesB_eq (s : ByteArray) (h : tv (bytesOf s) = true) (R : List ByteArray) (hR : R.map bytesOf = linesL [] (bytesOf s)) : R = linesB s := map_bytes_inj (by rw [hR, linesB_bytes s h])
theorem linesB_no (s : ByteArray) (h : tv (bytesOf s) = false) : linesB s = [] := by
  unfold linesB; rw [h]; rfl

theorem l1In_eq (x : Int) : spec_l1In.f x 32 126 = some (decide (32 ≤ x) && decide (x ≤ 126)) := by
  unfold spec_l1In.f
  by_cases h : x ≥ 32
  · rw [if_pos h, decide_eq_true h]; rfl
  · rw [if_neg h, decide_eq_false h]; rfl
theorem spec_tv_l (s : ByteArray) (hs : s.size ≤ 140737488351232) : ∀ (l : List Int) (i : Nat), (bytesOf s).drop i = l → i ≤ s.size →
    Ev (fun k => spec_TextValid.l0 k s (i : Int)) (l.all okb && decide ((bytesOf s).length ≤ 20000)) := by
  intro l
  induction l with
  | nil =>
    intro i hl hi
    have hn : s.size = i := by
      have := List.drop_eq_nil_iff.1 hl
      rw [bytesOf_length] at this; omega
    refine Ev.step (fun k => by rw [spec_TextValid.l0]) (ev_const fun k => ?_)
    rw [if_neg (by omega), bytesOf_length]; simp; omega
  | cons x l ih =>
    intro i hl hi
    have hlt : i < s.size := by
      rcases Nat.lt_or_ge i s.size with h | h
      · exact h
      · rw [List.drop_eq_nil_iff.2 (by rw [bytesOf_length]; exact h)] at hl; cases hl
    have hd := drop_cons (bytesOf s) i (by rw [bytesOf_length]; exact hlt)
    rw [hd] at hl
    obtain ⟨hx, hl'⟩ := List.cons.inj hl
    have hr := getD_range s i
    have hb := bt_nat s i
    rw [hx] at hb hr
    have h1 := ih (i + 1) hl' (by omega)
    refine Ev.step (fun k => by rw [spec_TextValid.l0]) ?_
    simp only [hb, w64s (show i + 1 < 9223372036854775808 by omega), w64 (n := x) (by omega) (by omega), l1In_eq, Option.bind_some, show (i : Int) < (s.size : Int) by omega, show (0 : Int) ≤ (i : Int) by omega, if_true]
    by_cases h10 : x = 10
    · subst h10
      simp only [if_true, List.all_cons, okb_ten, Bool.true_and]; exact h1
    · simp only [h10, if_false, List.all_cons, okb_in x h10]
      cases hq : (decide (32 ≤ x) && decide (x ≤ 126))
      · simp; exact Ev.now _
      · simp; simpa using h1
theorem spec_tv (s : ByteArray) (hs : s.size ≤ 140737488351232) : Ev (fun k => spec_TextValid.f k s) (tv (bytesOf s)) := by
  have := spec_tv_l s hs (bytesOf s) 0 rfl (by omega)
  exact this

theorem s_lines_l (s : ByteArray) (hs : s.size ≤ 1048576) : ∀ (l : List Int) (i st : Nat) (o : List ByteArray), (bytesOf s).drop i = l → st ≤ i → i ≤ s.size → o.length ≤ i →
    ∃ R, R.map bytesOf = o.map bytesOf ++ linesL (((bytesOf s).take i).drop st) l ∧ Ev (fun k => spec_LinesOf.l0 k s o (st : Int) (i : Int)) R := by
  intro l
  induction l with
  | nil =>
    intro i st o hl hst hi ho
    have hz : s.size = i := by
      have := List.drop_eq_nil_iff.1 hl
      rw [bytesOf_length] at this; omega
    have ht : (bytesOf s).take i = bytesOf s := List.take_of_length_le (by rw [bytesOf_length]; omega)
    by_cases h : st < s.size
    · have hne : ¬ (bytesOf s).drop st = [] := by
        intro e
        have := List.drop_eq_nil_iff.1 e
        rw [bytesOf_length] at this; omega
      refine ⟨o ++ [s.extract st s.size], ?_, ?_⟩
      · rw [ht, linesL, if_neg hne, List.map_append, List.map_cons, bytesOf_rest]; rfl
      · refine Ev.step (fun k => by rw [spec_LinesOf.l0]) ?_
        simp only [if_neg (show ¬ (i : Int) < (s.size : Int) by omega), if_pos (show (st : Int) < (s.size : Int) by omega), if_pos (show (0 : Int) ≤ (st : Int) by omega), if_pos (show (st : Int) ≤ (s.size : Int) by omega), if_pos (show o.length < 8796093022208 by omega), Int.toNat_natCast]
        exact Ev.now _
    · have he : (bytesOf s).drop st = [] := List.drop_eq_nil_iff.2 (by rw [bytesOf_length]; omega)
      refine ⟨o, by rw [ht, he, linesL, if_pos rfl, List.append_nil], ?_⟩
      refine Ev.step (fun k => by rw [spec_LinesOf.l0]) ?_
      simp only [if_neg (show ¬ (i : Int) < (s.size : Int) by omega), if_neg (show ¬ (st : Int) < (s.size : Int) by omega)]
      exact Ev.now _
  | cons x l ih =>
    intro i st o hl hst hi ho
    have hlt : i < s.size := by
      rcases Nat.lt_or_ge i s.size with h | h
      · exact h
      · rw [List.drop_eq_nil_iff.2 (by rw [bytesOf_length]; exact h)] at hl; cases hl
    have hd := drop_cons (bytesOf s) i (by rw [bytesOf_length]; exact hlt)
    rw [hd] at hl
    obtain ⟨hx, hl'⟩ := List.cons.inj hl
    have hb := bt_nat s i
    rw [hx] at hb
    have hw : wrap64 ((i : Int) + 1) = ((i + 1 : Nat) : Int) := w64s (by omega)
    by_cases h10 : x = 10
    · obtain ⟨R, h1, h2⟩ := ih (i + 1) (i + 1) (o ++ [s.extract st i]) hl' (Nat.le_refl _) (by omega) (by rw [List.length_append, List.length_cons, List.length_nil]; omega)
      refine ⟨R, ?_, ?_⟩
      · rw [h1, linesL, if_pos h10, List.map_append, List.map_cons, List.map_nil, bytesOf_cut, List.append_assoc]
        have e : ((bytesOf s).take (i + 1)).drop (i + 1) = [] := List.drop_of_length_le (by rw [List.length_take]; omega)
        rw [e]; rfl
      · refine Ev.step (fun k => by rw [spec_LinesOf.l0]) ?_
        simp only [hb, if_pos h10, if_pos (show (i : Int) < (s.size : Int) by omega), if_pos (show (0 : Int) ≤ (i : Int) by omega), if_pos (show (0 : Int) ≤ (st : Int) by omega), if_pos (show (st : Int) ≤ (i : Int) by omega), if_pos (show (i : Int) ≤ (s.size : Int) by omega),
          if_pos (show o.length < 8796093022208 by omega), hw, Int.toNat_natCast]
        exact h2
    · obtain ⟨R, h1, h2⟩ := ih (i + 1) st o hl' (by omega) (by omega) (by omega)
      refine ⟨R, ?_, ?_⟩
      · rw [h1, linesL, if_neg h10]
        have hgt : i < (bytesOf s).length := by rw [bytesOf_length]; exact hlt
        have e : ((bytesOf s).take (i + 1)).drop st = ((bytesOf s).take i).drop st ++ [x] := by
          rw [List.take_succ_eq_append_getElem hgt, List.drop_append_of_le_length (by rw [List.length_take]; omega)]
          congr 2
          rw [← hx, List.getD_eq_getElem?_getD, List.getElem?_eq_getElem hgt]; rfl
        rw [e]
      · refine Ev.step (fun k => by rw [spec_LinesOf.l0]) ?_
        simp only [hb, if_neg h10, if_pos (show (i : Int) < (s.size : Int) by omega), if_pos (show (0 : Int) ≤ (i : Int) by omega), hw]
        exact h2
theorem spec_lines (s : ByteArray) (hs : s.size ≤ 1048576) : Ev (fun k => spec_LinesOf.f k s) (linesB s) := by
  unfold spec_LinesOf.f
  simp only [Option.bind_some]
  refine ev_bind (spec_tv s (by omega)) ?_
  cases ht : tv (bytesOf s) with
  | false =>
    simp only [Bool.false_eq_true, if_false, linesB_no s ht]; exact Ev.now _
  | true =>
    simp only [if_true]
    obtain ⟨R, h1, h2⟩ := s_lines_l s hs _ 0 0 [] rfl (Nat.le_refl _) (by omega) (Nat.le_refl _)
    have h1' : R.map bytesOf = linesL [] (bytesOf s) := by rw [h1]; rfl
    rw [← linesB_eq s ht R h1']
    exact h2

theorem in_eq (x : Int) : impl_in.f x 32 126 = some (decide (32 ≤ x) && decide (x ≤ 126)) := by
  unfold impl_in.f
  by_cases h : x ≥ 32
  · rw [if_pos h, decide_eq_true h]; rfl
  · rw [if_neg h, decide_eq_false h]; rfl
theorem impl_tv_l (s : ByteArray) (hs : s.size ≤ 140737488351232) : ∀ (l : List Int) (i : Nat), (bytesOf s).drop i = l → i ≤ s.size →
    Ev (fun k => impl_TextValid.l0 k s (i : Int)) (l.all okb && decide ((bytesOf s).length ≤ 20000)) := by
  intro l
  induction l with
  | nil =>
    intro i hl hi
    have hn : s.size = i := by
      have := List.drop_eq_nil_iff.1 hl
      rw [bytesOf_length] at this; omega
    refine Ev.step (fun k => by rw [impl_TextValid.l0]) (ev_const fun k => ?_)
    rw [if_neg (by omega), bytesOf_length]; simp; omega
  | cons x l ih =>
    intro i hl hi
    have hlt : i < s.size := by
      rcases Nat.lt_or_ge i s.size with h | h
      · exact h
      · rw [List.drop_eq_nil_iff.2 (by rw [bytesOf_length]; exact h)] at hl; cases hl
    have hd := drop_cons (bytesOf s) i (by rw [bytesOf_length]; exact hlt)
    rw [hd] at hl
    obtain ⟨hx, hl'⟩ := List.cons.inj hl
    have hr := getD_range s i
    have hb := bt_nat s i
    rw [hx] at hb hr
    have h1 := ih (i + 1) hl' (by omega)
    refine Ev.step (fun k => by rw [impl_TextValid.l0]) ?_
    simp only [hb, w64s (show i + 1 < 9223372036854775808 by omega), w64 (n := x) (by omega) (by omega), in_eq, Option.bind_some, show (i : Int) < (s.size : Int) by omega, show (0 : Int) ≤ (i : Int) by omega, if_true]
    by_cases h10 : x = 10
    · subst h10
      simp only [if_true, List.all_cons, okb_ten, Bool.true_and]; exact h1
    · simp only [h10, if_false, List.all_cons, okb_in x h10]
      cases hq : (decide (32 ≤ x) && decide (x ≤ 126))
      · simp; exact Ev.now _
      · simp; simpa using h1
theorem impl_tv (s : ByteArray) (hs : s.size ≤ 140737488351232) : Ev (fun k => impl_TextValid.f k s) (tv (bytesOf s)) := by
  have := impl_tv_l s hs (bytesOf s) 0 rfl (by omega)
  exact this

theorem impl_lines (s : ByteArray) (hs : s.size ≤ 1048576) : Ev (fun k => impl_LinesOf.f k s) (linesB s) := by
  unfold impl_LinesOf.f
  refine ev_bind (impl_tv s (by omega)) ?_
  cases ht : tv (bytesOf s) with
  | false =>
    simp only [Bool.false_eq_true, if_false, linesB_no s ht]; exact Ev.now _
  | true =>
    simp only [if_true]
    have hsp : Ev (fun k => strings_Split.f k s (⟨#[10]⟩ : ByteArray)) (partsB s) := split_ev s 10 (by omega)
    refine ev_bind hsp ?_
    have hl := partsB_len s
    have hc := cnt_le 10 (bytesOf s)
    rw [bytesOf_length] at hc
    have hv : linesB s = (if ((partsB s).getD ((partsB s).length - 1) ByteArray.empty).toList = [] then (partsB s).take ((partsB s).length - 1) else partsB s) := by
      unfold linesB; rw [if_pos ht]
    rw [hv]
    have hn : 1 ≤ (partsB s).length ∧ (partsB s).length ≤ 1048577 := by omega
    clear hv hl hc hsp
    generalize partsB s = P at hn ⊢
    have hw : wrap64 ((P.length : Int) - 1) = ((P.length - 1 : Nat) : Int) := by rw [w64 (by omega) (by omega)]; omega
    have g1 : (0 : Int) ≤ ((P.length - 1 : Nat) : Int) := by omega
    have g2 : ((P.length - 1 : Nat) : Int) < (P.length : Int) := by omega
    have g3 : ((P.length - 1 : Nat) : Int) ≤ (P.length : Int) := by omega
    have c1 : impl_copied_string.f (P.take (P.length - 1)) = some (P.take (P.length - 1)) := by
      unfold impl_copied_string.f; rw [if_pos (by rw [List.length_take]; omega)]
    have c2 : impl_copied_string.f P = some P := by
      unfold impl_copied_string.f; rw [if_pos (by omega)]
    simp only [hw, if_pos g1, if_pos g2, if_pos g3, rdOf_nat, Int.toNat_natCast, c1, c2, Option.bind_some]
    by_cases he : (P.getD (P.length - 1) ByteArray.empty).toList = []
    · simp only [if_pos he]; exact Ev.now _
    · simp only [if_neg he]; exact Ev.now _

theorem linesL_app : ∀ (u v cur : List Int), linesL cur (u ++ 10 :: v) = linesL cur (u ++ [10]) ++ linesL [] v
  | [], v, cur => by rw [List.nil_append, List.nil_append, linesL, linesL, if_pos rfl, if_pos rfl]; rfl
  | x :: u, v, cur => by
    rw [List.cons_append, List.cons_append, linesL, linesL]
    by_cases h : x = 10
    · rw [if_pos h, if_pos h, linesL_app u v [], List.cons_append]
    · rw [if_neg h, if_neg h]; exact linesL_app u v _
theorem linesL_line : ∀ (p r cur : List Int), p.contains 10 = false → linesL cur (p ++ 10 :: r) = (cur ++ p) :: linesL [] r
  | [], r, cur, _ => by rw [List.nil_append, linesL, if_pos rfl, List.append_nil]
  | x :: p, r, cur, h => by
    rw [List.contains_eq_mem, decide_eq_false_iff_not, List.mem_cons, not_or] at h
    rw [List.cons_append, linesL, if_neg (fun e => h.1 e.symm), linesL_line p r _ (by rw [List.contains_eq_mem, decide_eq_false_iff_not]; exact h.2), List.append_assoc]; rfl
theorem linesL_no : ∀ (l cur : List Int), cur.contains 10 = false → ∀ p ∈ linesL cur l, p.contains 10 = false
  | [], cur, h, p, hp => by
    rw [linesL] at hp
    split at hp
    · cases hp
    · rw [List.mem_singleton] at hp; rw [hp]; exact h
  | x :: l, cur, h, p, hp => by
    rw [linesL] at hp
    by_cases hx : x = 10
    · rw [if_pos hx] at hp
      rcases List.mem_cons.1 hp with e | hp
      · rw [e]; exact h
      · exact linesL_no l [] rfl p hp
    · rw [if_neg hx] at hp
      refine linesL_no l (cur ++ [x]) ?_ p hp
      rw [List.contains_eq_mem, decide_eq_false_iff_not] at h ⊢
      rw [List.mem_append, not_or]
      exact ⟨h, by rw [List.mem_singleton]; exact fun e => hx e.symm⟩
def flatL (ps : List (List Int)) : List Int := ps.flatMap (· ++ [10])
theorem flatL_cons (p : List Int) (ps : List (List Int)) : flatL (p :: ps) = (p ++ [10]) ++ flatL ps := by unfold flatL; rw [List.flatMap_cons]
theorem flat_lines : ∀ (l cur : List Int), flatL (linesL cur l) = cur ++ l ∨ flatL (linesL cur l) = cur ++ l ++ [10]
  | [], cur => by
    rw [linesL]
    by_cases h : cur = []
    · left; rw [if_pos h, h]; rfl
    · right; rw [if_neg h, flatL_cons, List.append_nil]; simp [flatL]
  | x :: l, cur => by
    rw [linesL]
    by_cases h : x = 10
    · rw [if_pos h, flatL_cons, h]
      rcases flat_lines l [] with e | e
      · left; rw [e]; simp
      · right; rw [e]; simp
    · rw [if_neg h]
      rcases flat_lines l (cur ++ [x]) with e | e
      · left; rw [e]; simp
      · right; rw [e]; simp
theorem lines_flat : ∀ (ps : List (List Int)), (∀ p ∈ ps, p.contains 10 = false) → linesL [] (flatL ps) = ps
  | [], _ => rfl
  | p :: ps, h => by
    rw [flatL_cons, List.append_assoc, List.cons_append, List.nil_append, linesL_line p _ [] (h p List.mem_cons_self), lines_flat ps (fun q hq => h q (List.mem_cons_of_mem _ hq))]; rfl

theorem tmod_nn (a b : Int) (ha : 0 ≤ a) (hb : 0 < b) : 0 ≤ Int.tmod a b ∧ Int.tmod a b < b ∧ Int.tmod a b ≤ a := by
  rw [Int.tmod_eq_emod_of_nonneg ha]
  refine ⟨Int.emod_nonneg _ (by omega), Int.emod_lt_of_pos _ hb, ?_⟩
  have := Int.emod_add_mul_ediv a b
  have h2 : 0 ≤ a / b := Int.ediv_nonneg ha (by omega)
  have h3 : 0 ≤ b * (a / b) := Int.mul_nonneg (by omega) h2
  omega
theorem tdiv_nn (a b : Int) (ha : 0 ≤ a) (hb : 0 < b) : 0 ≤ Int.tdiv a b ∧ Int.tdiv a b ≤ a := by
  rw [Int.tdiv_eq_ediv_of_nonneg ha]
  exact ⟨Int.ediv_nonneg ha (by omega), Int.ediv_le_self _ ha⟩

/-! the reader that the inputs are drawn from -/
theorem xor_small (a b : Int) (ha : 0 ≤ a) (ha' : a < 4611686018427387904) (hb : 0 ≤ b) (hb' : b < 4611686018427387904) :
    0 ≤ Go.bits .xor .i64 a b ∧ Go.bits .xor .i64 a b < 4611686018427387904 := by
  obtain ⟨m, rfl⟩ := Int.eq_ofNat_of_zero_le ha
  obtain ⟨n, rfl⟩ := Int.eq_ofNat_of_zero_le hb
  have hx : m ^^^ n < 2 ^ 62 := Nat.xor_lt_two_pow (by omega) (by omega)
  have h1 : m % 2 ^ 64 = m := Nat.mod_eq_of_lt (by omega)
  have h2 : n % 2 ^ 64 = n := Nat.mod_eq_of_lt (by omega)
  have e : Go.bits .xor .i64 (m : Int) (n : Int) = ((m ^^^ n : Nat) : Int) := by
    have e1 : (BitVec.ofNat 64 m ^^^ BitVec.ofNat 64 n).toNat = m ^^^ n := by
      rw [BitVec.toNat_xor, BitVec.toNat_ofNat, BitVec.toNat_ofNat, h1, h2]
    show Go.IntKind.i64.wrap (((BitVec.ofInt 64 (m : Int) ^^^ BitVec.ofInt 64 (n : Int)).toNat : Nat) : Int) = _
    rw [BitVec.ofInt_natCast, BitVec.ofInt_natCast, e1, Go.IntKind.wrap_i64]; omega
  rw [e]; omega
/-- what is known of the reader's bytes. -/
def Bys (L : List Int) : Prop := L.length ≤ 2000 ∧ ∀ x ∈ L, 0 ≤ x ∧ x ≤ 255
theorem Bys.rd {L : List Int} (h : Bys L) (i : Int) : 0 ≤ rd L i ∧ rd L i ≤ 255 := by
  unfold Go.Proofs.YteloagahkphiaaaDoorW.PrintWords.rd
  rw [List.getD_eq_getElem?_getD]
  rcases Nat.lt_or_ge i.toNat L.length with hl | hl
  · rw [List.getElem?_eq_getElem hl]
    exact h.2 _ (List.getElem_mem hl)
  · rw [List.getElem?_eq_none hl]; simp
theorem pick_ev (L : List Int) (hL : Bys L) (p n : Int) (hp : 0 ≤ p) (hp' : p ≤ 1099511627776) (hn : 1 ≤ n) :
    ∃ v, 0 ≤ v ∧ v < n ∧ Ev (fun k => spec_l20Rd_pick.f k L p n) (v, p + 1) := by
  have hlen := hL.1
  have hp1 : wrap64 (p + 1) = p + 1 := w64 (by omega) (by omega)
  have hp2 : wrap64 (p + 1 - 1) = p := by rw [w64 (by omega) (by omega)]; omega
  by_cases h0 : L.length = 0
  · refine ⟨0, by omega, by omega, ?_⟩
    unfold spec_l20Rd_pick.f
    simp only [if_neg (show ¬ n < 1 by omega), hp1]
    refine Ev.step (fun k => by rw [spec_l20Rd_pick.j0]) ?_
    simp only [show ((L.length : Int) == 0) = true by simpa using h0, if_true]
    exact Ev.now _
  · by_cases hlt : p < (L.length : Int)
    · have hr := hL.rd p
      have ht := tmod_nn (rd L p) n hr.1 (by omega)
      refine ⟨_, ht.1, ht.2.1, ?_⟩
      unfold spec_l20Rd_pick.f
      simp only [if_neg (show ¬ n < 1 by omega), hp1]
      refine Ev.step (fun k => by rw [spec_l20Rd_pick.j0]) ?_
      simp only [show ((L.length : Int) == 0) = false by simpa using h0, Bool.false_eq_true, if_false, hp2, if_pos hlt, if_pos hp, if_neg (show ¬ n = 0 by omega), w64 (n := rd L p) (by omega) (by omega)]
      exact Ev.now _
    · have hpos : (0 : Int) < (L.length : Int) := by omega
      have hi1 := tmod_nn p L.length hp hpos
      have hw7 : wrap64 (wrap64 (p * 7) + 3) = p * 7 + 3 := by rw [w64 (n := p * 7) (by omega) (by omega), w64 (by omega) (by omega)]
      have hi2 := tmod_nn (p * 7 + 3) L.length (by omega) hpos
      have hd := tdiv_nn p L.length hp hpos
      have r1 := hL.rd (Int.tmod p L.length)
      have r2 := hL.rd (Int.tmod (p * 7 + 3) L.length)
      have hX : wrap64 (wrap64 (wrap64 (wrap64 (wrap64 (rd L (Int.tmod p L.length)) * 131) + wrap64 (wrap64 (rd L (Int.tmod (p * 7 + 3) L.length)) * 1117)) + wrap64 (p * 29)) + wrap64 (wrap64 (Int.tdiv p L.length) * 53))
          = rd L (Int.tmod p L.length) * 131 + rd L (Int.tmod (p * 7 + 3) L.length) * 1117 + p * 29 + Int.tdiv p L.length * 53 := by
        generalize rd L (Int.tmod p L.length) = a at *
        generalize rd L (Int.tmod (p * 7 + 3) L.length) = b at *
        generalize Int.tdiv p L.length = c at *
        rw [w64 (n := a) (by omega) (by omega), w64 (n := b) (by omega) (by omega), w64 (n := c) (by omega) (by omega), w64 (n := a * 131) (by omega) (by omega), w64 (n := b * 1117) (by omega) (by omega), w64 (n := p * 29) (by omega) (by omega), w64 (n := c * 53) (by omega) (by omega)]
        rw [w64 (n := a * 131 + b * 1117) (by omega) (by omega), w64 (n := a * 131 + b * 1117 + p * 29) (by omega) (by omega), w64 (by omega) (by omega)]
      have hX0 : 0 ≤ rd L (Int.tmod p L.length) * 131 + rd L (Int.tmod (p * 7 + 3) L.length) * 1117 + p * 29 + Int.tdiv p L.length * 53 := by omega
      have hX1 : rd L (Int.tmod p L.length) * 131 + rd L (Int.tmod (p * 7 + 3) L.length) * 1117 + p * 29 + Int.tdiv p L.length * 53 < 4611686018427387904 := by omega
      generalize hXe : rd L (Int.tmod p L.length) * 131 + rd L (Int.tmod (p * 7 + 3) L.length) * 1117 + p * 29 + Int.tdiv p L.length * 53 = X at *
      have hq := tdiv_nn X 64 hX0 (by omega)
      have hx := xor_small X (Int.tdiv X 64) hX0 hX1 hq.1 (by omega)
      have ht := tmod_nn _ n hx.1 (by omega)
      refine ⟨_, ht.1, ht.2.1, ?_⟩
      unfold spec_l20Rd_pick.f
      simp only [if_neg (show ¬ n < 1 by omega), hp1]
      refine Ev.step (fun k => by rw [spec_l20Rd_pick.j0]) ?_
      simp only [show ((L.length : Int) == 0) = false by simpa using h0, Bool.false_eq_true, if_false, hp2, if_neg hlt, if_neg (show ¬ (L.length : Int) = 0 by omega), if_neg (show ¬ n = 0 by omega),
        if_pos hi1.1, if_pos hi1.2.1, hw7, if_pos hi2.1, if_pos hi2.2.1, hX, w64 (n := Int.tdiv X 64) (by omega) (by omega)]
      exact Ev.now _
theorem odd_ev (L : List Int) (hL : Bys L) (p n : Int) (hp : 0 ≤ p) (hp' : p ≤ 1099511627776) (hn : 0 ≤ n) (hn' : n ≤ 1000000) :
    ∃ b q, p ≤ q ∧ q ≤ p + 1 ∧ Ev (fun k => spec_l20Rd_odd.f k L p n) (b, q) := by
  unfold spec_l20Rd_odd.f
  by_cases h : n > 0
  · obtain ⟨v, h0, h1, hv⟩ := pick_ev L hL p n hp hp' (by omega)
    refine ⟨(v == wrap64 (n - 1)), p + 1, by omega, by omega, ?_⟩
    simp only [if_pos h]
    exact ev_bind hv (Ev.now _)
  · refine ⟨false, p, by omega, by omega, ?_⟩
    simp only [if_neg h]
    exact Ev.now _
theorem open_ev (l : List Int) (hw : ∀ x ∈ l, (Lit.int .u8 x).wf = true) : ∃ L, Bys L ∧ spec_l20Open.f l = some (L, 0) := by
  have hr : ∀ x ∈ l, 0 ≤ x ∧ x ≤ 255 := by
    intro x hx
    have := hw x hx
    simp [Lit.wf, IntKind.min, IntKind.max, IntKind.signed, IntKind.bits] at this
    omega
  unfold spec_l20Open.f
  by_cases h : (l.length : Int) > 2000
  · refine ⟨l.take 2000, ⟨by simp; omega, fun x hx => hr x (List.mem_of_mem_take hx)⟩, ?_⟩
    rw [if_pos h, if_pos (by omega)]
  · refine ⟨l, ⟨by omega, hr⟩, ?_⟩
    rw [if_neg h]

/-! drawn texts are short -/
theorem rdOf_small (ys : List ByteArray) (b : Nat) (h : ∀ y ∈ ys, y.size ≤ b) (i : Int) : (rdOf ByteArray.empty ys i).size ≤ b := by
  unfold rdOf
  rw [List.getD_eq_getElem?_getD]
  rcases Nat.lt_or_ge i.toNat ys.length with hl | hl
  · rw [List.getElem?_eq_getElem hl]
    exact h _ (List.getElem_mem hl)
  · rw [List.getElem?_eq_none hl]; show 0 ≤ b; omega
theorem plain_l (L : List Int) (hL : Bys L) (n : Int) (hn : 0 ≤ n) (hn' : n ≤ 1000000) : ∀ (j : Nat) (p : Int) (o : ByteArray), 0 ≤ p → p + j ≤ 1000000 → o.size + j ≤ 1000000 →
    ∃ R q, R.size ≤ o.size + j + 1 ∧ p ≤ q ∧ q ≤ p + j + 2 ∧ Ev (fun k => spec_l20Plain.l0 k n o (j : Int) L p) (R, q) := by
  intro j
  induction j with
  | zero =>
    intro p o hp hpj hoj
    obtain ⟨b, q, h1, h2, ho⟩ := odd_ev L hL p n hp (by omega) hn hn'
    cases b with
    | false =>
      refine ⟨o, q, by omega, by omega, by omega, ?_⟩
      refine Ev.step (fun k => by rw [spec_l20Plain.l0]) ?_
      simp only [if_neg (show ¬ ((0 : Nat) : Int) > 0 by omega)]
      refine ev_bind ho ?_
      simp only [Bool.false_eq_true, if_false]
      exact Ev.now _
    | true =>
      obtain ⟨v, h3, h4, hv⟩ := pick_ev L hL q 3 (by omega) (by omega) (by omega)
      have hz := rdOf_small [(⟨#[31]⟩ : ByteArray), (⟨#[127]⟩ : ByteArray), (⟨#[195]⟩ : ByteArray)] 1 (by decide) v
      refine ⟨o ++ rdOf ByteArray.empty [(⟨#[31]⟩ : ByteArray), (⟨#[127]⟩ : ByteArray), (⟨#[195]⟩ : ByteArray)] v, q + 1, by rw [ByteArray.size_append]; omega, by omega, by omega, ?_⟩
      · refine Ev.step (fun k => by rw [spec_l20Plain.l0]) ?_
        simp only [if_neg (show ¬ ((0 : Nat) : Int) > 0 by omega)]
        refine ev_bind ho ?_
        simp only [if_true, Option.bind_some]
        refine ev_bind hv ?_
        simp only [if_pos h3, List.length_cons, List.length_nil]
        simp only [if_pos (show v < ((0 + 1 + 1 + 1 : Nat) : Int) by omega)]
        simp only [if_pos (show o.size + (rdOf ByteArray.empty [(⟨#[31]⟩ : ByteArray), (⟨#[127]⟩ : ByteArray), (⟨#[195]⟩ : ByteArray)] v).size ≤ 9223372036854775807 by omega)]
        exact Ev.now _
  | succ j ih =>
    intro p o hp hpj hoj
    obtain ⟨v, h3, h4, hv⟩ := pick_ev L hL p 8 hp (by omega) (by omega)
    have hz := rdOf_small [(⟨#[97]⟩ : ByteArray), (⟨#[98]⟩ : ByteArray), (⟨#[32]⟩ : ByteArray), (⟨#[10]⟩ : ByteArray), (⟨#[34]⟩ : ByteArray), (⟨#[92]⟩ : ByteArray), (⟨#[35]⟩ : ByteArray), (⟨#[120]⟩ : ByteArray)] 1 (by decide) v
    obtain ⟨R, q, r1, r2, r3, hR⟩ := ih (p + 1) (o ++ rdOf ByteArray.empty [(⟨#[97]⟩ : ByteArray), (⟨#[98]⟩ : ByteArray), (⟨#[32]⟩ : ByteArray), (⟨#[10]⟩ : ByteArray), (⟨#[34]⟩ : ByteArray), (⟨#[92]⟩ : ByteArray), (⟨#[35]⟩ : ByteArray), (⟨#[120]⟩ : ByteArray)] v) (by omega) (by omega) (by rw [ByteArray.size_append]; omega)
    rw [ByteArray.size_append] at r1
    refine ⟨R, q, by omega, by omega, by omega, ?_⟩
    refine Ev.step (fun k => by rw [spec_l20Plain.l0]) ?_
    simp only [if_pos (show ((j + 1 : Nat) : Int) > 0 by omega), Option.bind_some]
    refine ev_bind hv ?_
    simp only [if_pos h3, List.length_cons, List.length_nil]
    simp only [if_pos (show v < ((0 + 1 + 1 + 1 + 1 + 1 + 1 + 1 + 1 : Nat) : Int) by omega)]
    simp only [if_pos (show o.size + (rdOf ByteArray.empty [(⟨#[97]⟩ : ByteArray), (⟨#[98]⟩ : ByteArray), (⟨#[32]⟩ : ByteArray), (⟨#[10]⟩ : ByteArray), (⟨#[34]⟩ : ByteArray), (⟨#[92]⟩ : ByteArray), (⟨#[35]⟩ : ByteArray), (⟨#[120]⟩ : ByteArray)] v).size ≤ 9223372036854775807 by omega),
      show wrap64 (((j + 1 : Nat) : Int) - 1) = (j : Int) by rw [w64 (by omega) (by omega)]; omega]
    exact hR
theorem plain_ev (L : List Int) (hL : Bys L) (p n : Int) (hp : 0 ≤ p) (hp' : p ≤ 1000) (hn : 0 ≤ n) (hn' : n ≤ 1000000) :
    ∃ R q, R.size ≤ 10 ∧ p ≤ q ∧ q ≤ p + 20 ∧ Ev (fun k => spec_l20Plain.f k L p n) (R, q) := by
  obtain ⟨v, h3, h4, hv⟩ := pick_ev L hL p 9 hp (by omega) (by omega)
  obtain ⟨j, rfl⟩ := Int.eq_ofNat_of_zero_le h3
  obtain ⟨R, q, r1, r2, r3, hR⟩ := plain_l L hL n hn hn' j (p + 1) (⟨#[]⟩ : ByteArray) (by omega) (by omega) (by show 0 + j ≤ _; omega)
  refine ⟨R, q, ?_, by omega, by omega, ?_⟩
  · have : (⟨#[]⟩ : ByteArray).size = 0 := rfl
    omega
  · unfold spec_l20Plain.f
    exact ev_bind hv hR

theorem drawLines (l : List Int) (hw : ∀ x ∈ l, (Lit.int .u8 x).wf = true) : ∃ s, s.size ≤ 10 ∧ Ev (fun k => spec_DrawLinesOf.f k l) s := by
  obtain ⟨L, hL, hop⟩ := open_ev l hw
  obtain ⟨s, q, hs, _, _, hp⟩ := plain_ev L hL 0 6 (by omega) (by omega) (by omega) (by omega)
  refine ⟨s, hs, ?_⟩
  unfold spec_DrawLinesOf.f
  rw [hop]
  simp only [Option.bind_some]
  exact ev_bind hp (Ev.now _)

theorem alive_ev : Ev (fun k => laws_alive.f k) true := by
  unfold laws_alive.f
  refine ev_bind (impl_tv (⟨#[97]⟩ : ByteArray) (by decide)) ?_
  have : tv (bytesOf (⟨#[97]⟩ : ByteArray)) = true := by decide
  rw [this]
  exact Ev.now _

theorem sameT_l (xs : List ByteArray) (hl : xs.length ≤ 1099511627776) : ∀ (d j : Nat), j + d = xs.length → Ev (fun k => laws_sameTexts.l0 k xs xs (j : Int)) true := by
  intro d
  induction d with
  | zero =>
    intro j hj
    refine Ev.step (fun k => by rw [laws_sameTexts.l0]) ?_
    simp only [if_neg (show ¬ (j : Int) < (xs.length : Int) by omega)]
    exact Ev.now _
  | succ d ih =>
    intro j hj
    have h := ih (j + 1) (by omega)
    refine Ev.step (fun k => by rw [laws_sameTexts.l0]) ?_
    simp only [if_pos (show (j : Int) < (xs.length : Int) by omega), if_pos (show (0 : Int) ≤ (j : Int) by omega), if_true, w64s (show j + 1 < 9223372036854775808 by omega)]
    exact h
theorem sameT (xs : List ByteArray) (hl : xs.length ≤ 1099511627776) : Ev (fun k => laws_sameTexts.f k xs xs) true := by
  unfold laws_sameTexts.f
  simp only [if_true]
  exact sameT_l xs hl xs.length 0 (by omega)

theorem drop_consA {α : Type} (d : α) (l : List α) (i : Nat) (h : i < l.length) : l.drop i = l.getD i d :: l.drop (i + 1) := by
  rw [List.drop_eq_getElem_cons h]; simp [List.getD_eq_getElem?_getD, h]
theorem drop_parts {α : Type} (d : α) {l R : List α} {x : α} {j : Nat} (h : l.drop j = x :: R) : j < l.length ∧ l.getD j d = x ∧ l.drop (j + 1) = R := by
  have hlt : j < l.length := by
    rcases Nat.lt_or_ge j l.length with h1 | h1
    · exact h1
    · rw [List.drop_eq_nil_iff.2 h1] at h; cases h
  rw [drop_consA d l j hlt] at h
  obtain ⟨h1, h2⟩ := List.cons.inj h
  exact ⟨hlt, h1, h2⟩
def tot : List ByteArray → Nat
  | [] => 0
  | b :: R => b.size + tot R

def nlB (b : ByteArray) : Bool := (bytesOf b).contains 10
def ltOk : List ByteArray → Nat → Bool
  | [], _ => true
  | b :: R, n => tv (bytesOf b) && !nlB b && decide (n + b.size + 1 ≤ 20000) && ltOk R (n + b.size + 1)
def ok1 : List ByteArray → Nat → Bool
  | [], _ => true
  | b :: R, n => !nlB b && decide (n + b.size + 1 ≤ 20000) && ok1 R (n + b.size + 1)
def joinB : List ByteArray → ByteArray
  | [] => ⟨#[]⟩
  | b :: R => (b ++ (⟨#[10]⟩ : ByteArray)) ++ joinB R
theorem nl_size : (⟨#[10]⟩ : ByteArray).size = 1 := rfl
theorem joinB_size (R : List ByteArray) : ∀ n, ok1 R n = true → n ≤ 20000 → (joinB R).size + n ≤ 20000 := by
  induction R with
  | nil => intro n _ h; show 0 + n ≤ _; omega
  | cons b R ih =>
    intro n h hn
    simp only [ok1, Bool.and_eq_true, decide_eq_true_iff] at h
    have := ih _ h.2 h.1.2
    simp only [joinB, ByteArray.size_append, nl_size]; omega
theorem ltOk_eq (R : List ByteArray) : ∀ n, ltOk R n = (ok1 R n && (bytesOf (joinB R)).all okb) := by
  induction R with
  | nil => intro n; rfl
  | cons b R ih =>
    intro n
    simp only [ltOk, ok1, ih, joinB, bytesOf_app, List.all_append]
    have hk : (bytesOf (⟨#[10]⟩ : ByteArray)).all okb = true := rfl
    rw [hk, Bool.and_true]
    by_cases hn : n + b.size + 1 ≤ 20000
    · have ht : tv (bytesOf b) = (bytesOf b).all okb := by
        unfold tv; rw [decide_eq_true (by rw [bytesOf_length]; omega), Bool.and_true]
      rw [ht]
      cases (bytesOf b).all okb <;> cases nlB b <;> cases ok1 R (n + b.size + 1) <;> simp
    · simp [hn]
def ltRes (R : List ByteArray) (o : ByteArray) : ByteArray × Bool := if ltOk R o.size then (o ++ joinB R, true) else ((⟨#[]⟩ : ByteArray), false)
theorem app_empty (o : ByteArray) : o ++ (⟨#[]⟩ : ByteArray) = o := by
  apply bytesOf_inj; rw [bytesOf_app]; exact List.append_nil _
theorem empty_app (o : ByteArray) : (⟨#[]⟩ : ByteArray) ++ o = o := by
  apply bytesOf_inj; rw [bytesOf_app]; rfl
theorem app_assoc (a b c : ByteArray) : (a ++ b) ++ c = a ++ (b ++ c) := by
  apply bytesOf_inj; simp only [bytesOf_app, List.append_assoc]
theorem tot_mem {xs : List ByteArray} {b : ByteArray} (h : b ∈ xs) : b.size ≤ tot xs := by
  induction xs with
  | nil => cases h
  | cons c R ih =>
    unfold tot
    rcases List.mem_cons.1 h with rfl | h
    · omega
    · have := ih h; omega

theorem hasLineEnd_eq (s : ByteArray) : impl_hasLineEnd.f s = some ((bytesOf s).contains 10) := by
  unfold impl_hasLineEnd.f strings_Contains.f
  have h1 : (⟨#[10]⟩ : ByteArray).size = 1 := rfl
  rw [if_pos h1]
  simp only [Option.bind_some]
  congr 1
  rw [Bool.eq_iff_iff, decide_eq_true_iff]
  show 0 ≤ Lib.indexByte s.data.toList 10 ↔ _
  rw [index_mem, mem_bytes]; rfl

def ltEnd (t : ByteArray) : ByteArray × Bool := if tv (bytesOf t) then (t, true) else ((⟨#[]⟩ : ByteArray), false)
theorem implLT_l1 (xs : List ByteArray) (hx : xs.length + tot xs ≤ 1048576) : ∀ (R : List ByteArray) (j : Nat) (o : ByteArray), xs.drop j = R → j ≤ xs.length → o.size + (joinB R).size ≤ 20000 →
    Ev (fun k => impl_LinesText.l1 k o xs (xs.length : Int) (j : Int)) (ltEnd (o ++ joinB R)) := by
  intro R
  induction R with
  | nil =>
    intro j o hd hj ho
    have hn := List.drop_eq_nil_iff.1 hd
    refine Ev.step (fun k => by rw [impl_LinesText.l1]) ?_
    simp only [if_neg (show ¬ (j : Int) < (xs.length : Int) by omega), joinB, app_empty, ltEnd]
    refine ev_bind (impl_tv o (by omega)) ?_
    cases tv (bytesOf o)
    · simp only [Bool.false_eq_true, if_false]; exact Ev.now _
    · simp only [if_true]; exact Ev.now _
  | cons b R ih =>
    intro j o hd hj ho
    obtain ⟨hlt, hb, hR⟩ := drop_parts ByteArray.empty hd
    simp only [joinB, ByteArray.size_append, nl_size] at ho
    have h := ih (j + 1) (o ++ (b ++ (⟨#[10]⟩ : ByteArray))) hR (by omega) (by simp only [ByteArray.size_append, nl_size]; omega)
    refine Ev.step (fun k => by rw [impl_LinesText.l1]) ?_
    simp only [rdOf_nat, hb, if_pos (show (j : Int) < (xs.length : Int) by omega), if_pos (show (0 : Int) ≤ (j : Int) by omega), w64s (show j + 1 < 9223372036854775808 by omega), ByteArray.size_append, nl_size,
      if_pos (show b.size + 1 ≤ 9223372036854775807 by omega), if_pos (show o.size + (b.size + 1) ≤ 9223372036854775807 by omega)]
    rw [joinB, show o ++ ((b ++ (⟨#[10]⟩ : ByteArray)) ++ joinB R) = (o ++ (b ++ (⟨#[10]⟩ : ByteArray))) ++ joinB R from (app_assoc _ _ _).symm]
    exact h
theorem implLT_l0 (xs : List ByteArray) (hx : xs.length + tot xs ≤ 1048576) : ∀ (R : List ByteArray) (j : Nat) (n : Nat), xs.drop j = R → j ≤ xs.length → n ≤ 20000 →
    (ok1 R n = true → (joinB xs).size ≤ 20000) →
    Ev (fun k => impl_LinesText.l0 k xs (n : Int) xs (xs.length : Int) (j : Int)) (if ok1 R n then ltEnd (joinB xs) else ((⟨#[]⟩ : ByteArray), false)) := by
  intro R
  induction R with
  | nil =>
    intro j n hd hj hn hsz
    have hn := List.drop_eq_nil_iff.1 hd
    refine Ev.step (fun k => by rw [impl_LinesText.l0]) ?_
    simp only [if_neg (show ¬ (j : Int) < (xs.length : Int) by omega), ok1, if_true]
    have := implLT_l1 xs hx xs 0 (⟨#[]⟩ : ByteArray) rfl (by omega) (by have := hsz rfl; show 0 + _ ≤ _; omega)
    rw [empty_app] at this
    exact this
  | cons b R ih =>
    intro j n hd hj hn hsz
    obtain ⟨hlt, hb, hR⟩ := drop_parts ByteArray.empty hd
    have hm : b ∈ xs := List.mem_of_mem_drop (i := j) (by rw [hd]; exact List.mem_cons_self)
    have hz := tot_mem hm
    have e : wrap64 ((n : Int) + (wrap64 ((b.size : Int) + 1))) = ((n + b.size + 1 : Nat) : Int) := by
      rw [w64 (n := (b.size : Int) + 1) (by omega) (by omega), w64 (by omega) (by omega)]; omega
    refine Ev.step (fun k => by rw [impl_LinesText.l0]) ?_
    simp only [rdOf_nat, hb, if_pos (show (j : Int) < (xs.length : Int) by omega), if_pos (show (0 : Int) ≤ (j : Int) by omega), w64s (show j + 1 < 9223372036854775808 by omega), hasLineEnd_eq, Option.bind_some, e]
    cases hc : (bytesOf b).contains 10
    · simp only [Bool.false_eq_true, if_false]
      by_cases h2 : ((n + b.size + 1 : Nat) : Int) > 20000
      · simp only [if_pos h2, ok1, decide_eq_false (show ¬ n + b.size + 1 ≤ 20000 by omega), Bool.and_false, Bool.false_and, Bool.false_eq_true, if_false]; exact Ev.now _
      · have hk : ok1 (b :: R) n = ok1 R (n + b.size + 1) := by
          simp only [ok1, nlB, hc, decide_eq_true (show n + b.size + 1 ≤ 20000 by omega), Bool.not_false, Bool.true_and]
        rw [hk]
        rw [hk] at hsz
        simp only [if_neg h2]
        exact ih (j + 1) (n + b.size + 1) hR (by omega) (by omega) hsz
    · simp only [if_true, ok1, nlB, hc, Bool.not_true, Bool.false_and, Bool.false_eq_true, if_false]; exact Ev.now _
theorem ltRes_impl (xs : List ByteArray) : (if ok1 xs 0 then ltEnd (joinB xs) else ((⟨#[]⟩ : ByteArray), false)) = ltRes xs (⟨#[]⟩ : ByteArray) := by
  unfold ltRes
  rw [show (⟨#[]⟩ : ByteArray).size = 0 from rfl, ltOk_eq, empty_app]
  cases h : ok1 xs 0
  · simp
  · have hz := joinB_size xs 0 h (by omega)
    have ht : tv (bytesOf (joinB xs)) = (bytesOf (joinB xs)).all okb := by
      unfold tv; rw [decide_eq_true (by rw [bytesOf_length]; omega), Bool.and_true]
    simp only [if_true, Bool.true_and, ltEnd, ht]
theorem implLT (xs : List ByteArray) (hx : xs.length + tot xs ≤ 1048576) : Ev (fun k => impl_LinesText.f k xs) (ltRes xs (⟨#[]⟩ : ByteArray)) := by
  have h := implLT_l0 xs hx xs 0 0 rfl (by omega) (by omega) (fun h => by have := joinB_size xs 0 h (by omega); omega)
  rw [ltRes_impl] at h
  exact h

theorem joinB_bytes : ∀ (R : List ByteArray), bytesOf (joinB R) = flatL (R.map bytesOf)
  | [] => rfl
  | b :: R => by rw [joinB, List.map_cons, flatL_cons, bytesOf_app, bytesOf_app, joinB_bytes R]; rfl
theorem ok1_of : ∀ (R : List ByteArray) (n : Nat), (∀ b ∈ R, nlB b = false) → n + (joinB R).size ≤ 20000 → ok1 R n = true
  | [], _, _, _ => rfl
  | b :: R, n, h, hn => by
    rw [joinB, ByteArray.size_append, ByteArray.size_append, nl_size] at hn
    rw [ok1, h b List.mem_cons_self, decide_eq_true (show n + b.size + 1 ≤ 20000 by omega), ok1_of R _ (fun c hc => h c (List.mem_cons_of_mem _ hc)) (by omega)]; rfl
theorem FnLinesOf : laws_FnLinesOf.Pure := by
  intro l _ _ hw
  apply Ev.rounds
  unfold laws_FnLinesOf.f
  by_cases h : (l.length : Int) > 1048576
  · simp only [if_pos h]; exact Ev.now _
  · simp only [if_neg h]
    obtain ⟨s, hs, hd⟩ := drawLines l hw
    have ll := linesB_len s
    refine ev_bind hd (ev_bind (impl_lines s (by omega)) (ev_bind (spec_lines s (by omega)) (ev_bind (sameT _ (by omega)) ?_)))
    simp only [if_true]
    refine ev_bind (spec_tv s (by omega)) ?_
    cases ht : tv (bytesOf s) with
    | false =>
      simp only [Bool.false_eq_true, if_false, linesB_no s ht, List.length_nil, Int.natCast_zero, if_true]
      exact ev_bind alive_ev (Ev.now _)
    | true =>
      simp only [if_true]
      have hb := linesB_bytes s ht
      have hno : ∀ b ∈ linesB s, nlB b = false := by
        intro b hb'
        refine linesL_no (bytesOf s) [] rfl (bytesOf b) ?_
        rw [← hb]
        exact List.mem_map_of_mem hb'
      have hj := joinB_bytes (linesB s)
      rw [hb] at hj
      have hfl := flat_lines (bytesOf s) []
      rw [List.nil_append, ← hj] at hfl
      have hz : (joinB (linesB s)).size ≤ s.size + 1 := by
        rcases hfl with e | e
        · rw [bytesOf_inj e]; omega
        · rw [size_bytes, e, List.length_append, bytesOf_length]; exact Nat.le_refl _
      have htot : ∀ R : List ByteArray, tot R ≤ (joinB R).size := by
        intro R
        induction R with
        | nil => exact Nat.zero_le _
        | cons b R ih => rw [tot, joinB, ByteArray.size_append, ByteArray.size_append, nl_size]; omega
      have hok : ltOk (linesB s) (⟨#[]⟩ : ByteArray).size = true := by
        rw [ltOk_eq, ok1_of _ _ hno (by show 0 + _ ≤ _; omega), Bool.true_and]
        have ha : (bytesOf s).all okb = true := by unfold tv at ht; simp only [Bool.and_eq_true] at ht; exact ht.1
        rcases hfl with e | e
        · rw [e]; exact ha
        · rw [e, List.all_append, ha]; rfl
      have hres : ltRes (linesB s) (⟨#[]⟩ : ByteArray) = (joinB (linesB s), true) := by
        unfold ltRes
        rw [if_pos hok, empty_app]
      have him := implLT (linesB s) (by have := htot (linesB s); omega)
      rw [hres] at him
      refine ev_bind him ?_
      simp only [if_true]
      by_cases he : (joinB (linesB s)).toList = s.toList
      · simp only [if_pos he]; exact Ev.now _
      · simp only [if_neg he, if_pos (show s.size + 1 ≤ 9223372036854775807 by omega)]
        refine ev_const fun k => ?_
        rcases hfl with e | e
        · exact absurd (by rw [bytesOf_inj e]) he
        · have e2 : joinB (linesB s) = s ++ (⟨#[10]⟩ : ByteArray) := bytesOf_inj (by rw [e, bytesOf_app]; rfl)
          rw [e2]; simp

end Go.Proofs.YteloagahkphiaaaDoor.Pure
namespace Go.Proofs.YteloagahkphiaaaDoor.PrintWords
/-- The word that the printed row names: a slice of whole numbers is no longer than its weight allows. -/
theorem sized_ints {H : Type} {enc : TypeId × Value → H} {P : Program} {W : World} {base : Nat} {spare : Nat → Bool} {held : Bool} {t e : TypeId} {k : IntKind} {a : Option Addr} {len cap : Nat} {d : DataW H} {ps : List MemPlace} {ts : List TypeId} {ds : List (DataW H)} {j : Nat}
    (hsz : (DataW.weightsEach P ts ds).all (· ≤ reachBytes) = true) (ht : ts[j]? = some t) (hd : ds[j]? = some d) (hu : P.underlying t = some (.slice e)) (he : P.underlying e = some (.int k)) (hc : P.cellsOf e = 1) {B : Nat} (hB : P.bytesOf e = B)
    (h : DataW.Trod enc P W base spare held t (.slice a len cap) d ps) : len * B ≤ 140737488351232 :=
  Go.Proofs.YteloagahkphiaaaDoorW.PrintWords.sized_ints hsz ht hd hu he hc hB h
end Go.Proofs.YteloagahkphiaaaDoor.PrintWords
