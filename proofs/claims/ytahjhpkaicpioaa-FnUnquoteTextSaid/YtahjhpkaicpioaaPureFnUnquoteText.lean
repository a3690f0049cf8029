/- The pure statement of the law FnUnquoteText holds: for every input that meets the bounds in the statement, the printed function of the law, given enough rounds, answers true. -/
import Derived.Test.YtahjhpkaicpioaaPFnUnquoteTextx4
import Derived.Test.YtahjhpkaicpioaaWSized
namespace Go.Proofs.Ytahjhpkaicpioaa.Pure
open Go.RowKit Go.Proofs.Ytahjhpkaicpioaa.PFnUnquoteText Go.Proofs.YtahjhpkaicpioaaW.PrintWords Go.Proofs.YtahjhpkaicpioaaW.PrintLast Go.Proofs.YtahjhpkaicpioaaW.PrintMore
set_option linter.unusedVariables false
set_option linter.unusedSimpArgs false

theorem w64 {n : Int} (h0 : -9223372036854775808 ≤ n) (h1 : n < 9223372036854775808) : wrap64 n = n := by
  unfold wrap64; omega
theorem w64n {n : Nat} (h1 : n < 9223372036854775808) : wrap64 (n : Int) = (n : Int) := w64 (by omega) (by omega)
theorem w64s {n : Nat} (h1 : n + 1 < 9223372036854775808) : wrap64 ((n : Int) + 1) = ((n + 1 : Nat) : Int) := by
  rw [w64 (by omega) (by omega)]; rfl
theorem ev_const {α : Type} {g : Nat → Option α} {r : α} (h : ∀ k, g k = some r) : Ev g r := ⟨0, fun k _ => h k⟩
theorem ev_bind {α β : Type} {g : Nat → Option α} {f : Nat → α → Option β} {a : α} {r : β} (h : Ev g a) (k : Ev (fun n => f n a) r) :
    Ev (fun n => (g n).bind (fun x => f n x)) r := Ev.bind h k
theorem bt_nat (s : ByteArray) (i : Nat) : bt s (i : Int) = (bytesOf s).getD i 0 := by
  rw [← rd_bytesOf]; simp [rd]
theorem drop_cons (l : List Int) (i : Nat) (h : i < l.length) : l.drop i = l.getD i 0 :: l.drop (i + 1) := by
  rw [List.drop_eq_getElem_cons h]; simp [List.getD_eq_getElem?_getD, h]
theorem bytesOf_range (s : ByteArray) : ∀ x ∈ bytesOf s, 0 ≤ x ∧ x ≤ 255 := by
  intro x hx
  unfold bytesOf at hx
  obtain ⟨b, _, rfl⟩ := List.mem_map.1 hx
  have := b.toNat_lt
  omega
theorem getD_range (s : ByteArray) (i : Nat) : 0 ≤ (bytesOf s).getD i 0 ∧ (bytesOf s).getD i 0 ≤ 255 := by
  rw [← bt_nat]; exact bt_range _ _
theorem map_byte_inj : ∀ (a b : List UInt8), a.map (fun b => (b.toNat : Int)) = b.map (fun b => (b.toNat : Int)) → a = b
  | [], [], _ => rfl
  | [], _ :: _, h => by simp at h
  | _ :: _, [], h => by simp at h
  | x :: a, y :: b, h => by
    simp only [List.map_cons, List.cons.injEq] at h
    have h1 : x = y := UInt8.toNat_inj.1 (by omega)
    rw [h1, map_byte_inj a b h.2]
theorem bytesOf_inj {a b : ByteArray} (h : bytesOf a = bytesOf b) : a = b := by
  have := map_byte_inj _ _ h
  apply ByteArray.ext
  exact Array.toList_inj.1 this
theorem bytesOf_app (a b : ByteArray) : bytesOf (a ++ b) = bytesOf a ++ bytesOf b := by
  unfold bytesOf
  rw [ByteArray.data_append]; simp
theorem bytesOf_cut (s : ByteArray) (i j : Nat) : bytesOf (s.extract i j) = ((bytesOf s).take j).drop i := by
  unfold bytesOf
  rw [ByteArray.data_extract]
  simp [List.drop_take]
theorem bytesOf_str (xs : List Int) (h : ∀ x ∈ xs, 0 ≤ x ∧ x ≤ 255) : bytesOf (strOfNums xs) = xs := by
  unfold bytesOf strOfNums
  simp only [List.map_map]
  conv => rhs; rw [← List.map_id xs]
  apply List.map_congr_left
  intro x hx
  have := h x hx
  have e : x.toNat % 256 = x.toNat := Nat.mod_eq_of_lt (by omega)
  simp only [Function.comp, UInt8.toNat_ofNat', id]
  omega
theorem str_bytes (s : ByteArray) : strOfNums (bytesOf s) = s :=
  bytesOf_inj (bytesOf_str _ (bytesOf_range s))
theorem toList_data (a : ByteArray) : a.toList = a.data.toList := ByteArray.toList_eq a
theorem toList_iff {a b : ByteArray} : a.toList = b.toList ↔ bytesOf a = bytesOf b := by
  constructor
  · intro h
    unfold bytesOf
    rw [← toList_data, ← toList_data, h]
  · intro h
    rw [bytesOf_inj h]
theorem size_bytes (s : ByteArray) : s.size = (bytesOf s).length := (bytesOf_length s).symm

/-! texts: which bytes are plain -/
def okb (x : Int) : Bool := x == 10 || (decide (32 ≤ x) && decide (x ≤ 126))
def tv (l : List Int) : Bool := l.all okb && decide (l.length ≤ 20000)
theorem okb_ten : okb 10 = true := rfl
theorem okb_in (x : Int) (h : ¬ x = 10) : okb x = (decide (32 ≤ x) && decide (x ≤ 126)) := by
  unfold okb; rw [beq_eq_false_iff_ne.mpr h]; rfl

/-! quoting -/
def esc (x : Int) : List Int := if x = 10 then [92, 110] else if x = 34 then [92, 34] else if x = 92 then [92, 92] else [x]
def qbody (l : List Int) : List Int := l.flatMap esc ++ [34]
def qt (l : List Int) : List Int := if tv l = true then 34 :: qbody l else []
theorem qbody_cons (x : Int) (l : List Int) : qbody (x :: l) = esc x ++ qbody l := by simp [qbody]
theorem esc_len (x : Int) : (esc x).length ≤ 2 := by
  unfold esc; repeat' split
  all_goals simp
theorem esc_range (x : Int) (h : 0 ≤ x ∧ x ≤ 255) : ∀ y ∈ esc x, 0 ≤ y ∧ y ≤ 255 := by
  unfold esc
  intro y hy
  split at hy
  · simp at hy; omega
  · split at hy
    · simp at hy; omega
    · split at hy
      · simp at hy; omega
      · simp at hy; omega
theorem qbody_range (l : List Int) (h : ∀ y ∈ l, 0 ≤ y ∧ y ≤ 255) : ∀ y ∈ qbody l, 0 ≤ y ∧ y ≤ 255 := by
  intro y hy
  unfold qbody at hy
  rcases List.mem_append.1 hy with hy | hy
  · obtain ⟨x, hx, hy⟩ := List.mem_flatMap.1 hy
    exact esc_range x (h x hx) y hy
  · simp at hy; omega
theorem qt_range (l : List Int) (h : ∀ y ∈ l, 0 ≤ y ∧ y ≤ 255) : ∀ y ∈ qt l, 0 ≤ y ∧ y ≤ 255 := by
  unfold qt
  intro y hy
  split at hy
  · rcases List.mem_cons.1 hy with hy | hy
    · omega
    · exact qbody_range l h y hy
  · simp at hy
theorem lit_bytes2 (a b : UInt8) : bytesOf (⟨#[a, b]⟩ : ByteArray) = [(a.toNat : Int), (b.toNat : Int)] := rfl
theorem lit_bytes1 (a : UInt8) : bytesOf (⟨#[a]⟩ : ByteArray) = [(a.toNat : Int)] := rfl
theorem cut_one (s : ByteArray) (i : Nat) (h : i < s.size) : bytesOf (s.extract i (i + 1)) = [(bytesOf s).getD i 0] := by
  rw [bytesOf_cut]
  have hl : i < (bytesOf s).length := by rw [bytesOf_length]; exact h
  rw [List.take_succ_eq_append_getElem hl, List.drop_append_of_le_length (by simp; omega)]
  rw [List.drop_of_length_le (by rw [List.length_take]; omega)]
  simp [List.getD_eq_getElem?_getD, hl]
theorem tv_len {l : List Int} (h : tv l = true) : l.length ≤ 20000 := by
  unfold tv at h; simp at h; exact h.2

/-! unquoting -/
def unb (x : Int) : Int := if x = 110 then 10 else x
/-- what the loop makes of the bytes from the first one behind the quotation mark on, the last byte among them. -/
def uq : List Int → List Int
  | [] => []
  | [_] => []
  | x :: y :: l => if x = 92 then unb y :: uq l else x :: uq (y :: l)
def uqt (l : List Int) : List Int × Bool :=
  if 2 ≤ l.length ∧ tv (uq (l.drop 1)) = true ∧ 34 :: qbody (uq (l.drop 1)) = l then (uq (l.drop 1), true) else ([], false)
theorem uq_range : ∀ (n : Nat) (l : List Int), l.length ≤ n → (∀ y ∈ l, 0 ≤ y ∧ y ≤ 255) → ∀ y ∈ uq l, 0 ≤ y ∧ y ≤ 255 := by
  intro n
  induction n with
  | zero =>
    intro l hn hl y hy
    have : l = [] := List.length_eq_zero_iff.1 (by omega)
    subst this; simp [uq] at hy
  | succ n ih =>
    intro l hn hl y hy
    match l, hn, hl, hy with
    | [], _, _, hy => simp [uq] at hy
    | [_], _, _, hy => simp [uq] at hy
    | x :: z :: l, hn, hl, hy =>
      rw [uq] at hy
      split at hy
      · rcases List.mem_cons.1 hy with hy | hy
        · have hz := hl z (by simp)
          unfold unb at hy
          split at hy
          · omega
          · omega
        · exact ih l (by simp at hn; omega) (fun w hw => hl w (by simp [hw])) y hy
      · rcases List.mem_cons.1 hy with hy | hy
        · have hz := hl x (by simp)
          omega
        · exact ih (z :: l) (by simp at hn ⊢; omega) (fun w hw => hl w (List.mem_cons_of_mem _ hw)) y hy
theorem uq_len : ∀ (n : Nat) (l : List Int), l.length ≤ n → (uq l).length ≤ l.length := by
  intro n
  induction n with
  | zero =>
    intro l hn
    have : l = [] := List.length_eq_zero_iff.1 (by omega)
    subst this; simp [uq]
  | succ n ih =>
    intro l hn
    match l, hn with
    | [], _ => simp [uq]
    | [_], _ => simp [uq]
    | x :: z :: l, hn =>
      rw [uq]
      split
      · have := ih l (by simp at hn; omega); simp; omega
      · have := ih (z :: l) (by simp at hn ⊢; omega); simp at this ⊢; omega
theorem qt_eq_iff (r L : List Int) (h : 2 ≤ L.length) : qt r = L ↔ (tv r = true ∧ 34 :: qbody r = L) := by
  unfold qt
  by_cases ht : tv r = true
  · simp [ht]
  · simp [ht]
    intro e; subst e; simp at h
theorem qbody_last (r : List Int) : (qbody r).getLast? = some 34 := by simp [qbody]
theorem empty_str : strOfNums [] = (⟨#[]⟩ : ByteArray) := rfl
theorem qbody_len (r : List Int) : (qbody r).length ≤ 2 * r.length + 1 := by
  induction r with
  | nil => simp [qbody]
  | cons x l ih => rw [qbody_cons, List.length_append]; have := esc_len x; simp; omega

theorem l1In_eq (x : Int) : spec_l1In.f x 32 126 = some (decide (32 ≤ x) && decide (x ≤ 126)) := by
  unfold spec_l1In.f
  by_cases h : x ≥ 32
  · rw [if_pos h, decide_eq_true h]; rfl
  · rw [if_neg h, decide_eq_false h]; rfl
theorem spec_tv_l (s : ByteArray) (hs : s.size ≤ 140737488351232) : ∀ (l : List Int) (i : Nat), (bytesOf s).drop i = l → i ≤ s.size →
    Ev (fun k => spec_TextValid.l0 k s (i : Int)) (l.all okb && decide ((bytesOf s).length ≤ 20000)) := by
  intro l
  induction l with
  | nil =>
    intro i hl hi
    have hn : s.size = i := by
      have := List.drop_eq_nil_iff.1 hl
      rw [bytesOf_length] at this; omega
    refine Ev.step (fun k => by rw [spec_TextValid.l0]) (ev_const fun k => ?_)
    rw [if_neg (by omega), bytesOf_length]; simp; omega
  | cons x l ih =>
    intro i hl hi
    have hlt : i < s.size := by
      rcases Nat.lt_or_ge i s.size with h | h
      · exact h
      · rw [List.drop_eq_nil_iff.2 (by rw [bytesOf_length]; exact h)] at hl; cases hl
    have hd := drop_cons (bytesOf s) i (by rw [bytesOf_length]; exact hlt)
    rw [hd] at hl
    obtain ⟨hx, hl'⟩ := List.cons.inj hl
    have hr := getD_range s i
    have hb := bt_nat s i
    rw [hx] at hb hr
    have h1 := ih (i + 1) hl' (by omega)
    refine Ev.step (fun k => by rw [spec_TextValid.l0]) ?_
    simp only [hb, w64s (show i + 1 < 9223372036854775808 by omega), w64 (n := x) (by omega) (by omega), l1In_eq, Option.bind_some, show (i : Int) < (s.size : Int) by omega, show (0 : Int) ≤ (i : Int) by omega, if_true]
    by_cases h10 : x = 10
    · subst h10
      simp only [if_true, List.all_cons, okb_ten, Bool.true_and]; exact h1
    · simp only [h10, if_false, List.all_cons, okb_in x h10]
      cases hq : (decide (32 ≤ x) && decide (x ≤ 126))
      · simp; exact Ev.now _
      · simp; simpa using h1
theorem spec_tv (s : ByteArray) (hs : s.size ≤ 140737488351232) : Ev (fun k => spec_TextValid.f k s) (tv (bytesOf s)) := by
  have := spec_tv_l s hs (bytesOf s) 0 rfl (by omega)
  exact this

theorem spec_qt_l (s : ByteArray) (hs : s.size ≤ 140737488351232) : ∀ (l : List Int) (i : Nat) (o R : ByteArray), (bytesOf s).drop i = l → i ≤ s.size →
    o.size ≤ 2 * i + 1 → bytesOf R = bytesOf o ++ qbody l → Ev (fun k => spec_QuoteText.l0 k s o (i : Int)) R := by
  intro l
  induction l with
  | nil =>
    intro i o R hl hi ho hR
    have hn : s.size = i := by
      have := List.drop_eq_nil_iff.1 hl
      rw [bytesOf_length] at this; omega
    refine Ev.step (fun k => by rw [spec_QuoteText.l0]) (ev_const fun k => ?_)
    rw [if_neg (by omega), if_pos (by omega)]
    congr 1
    apply bytesOf_inj
    rw [hR, bytesOf_app]; rfl
  | cons x l ih =>
    intro i o R hl hi ho hR
    have hlt : i < s.size := by
      rcases Nat.lt_or_ge i s.size with h | h
      · exact h
      · rw [List.drop_eq_nil_iff.2 (by rw [bytesOf_length]; exact h)] at hl; cases hl
    have hd := drop_cons (bytesOf s) i (by rw [bytesOf_length]; exact hlt)
    rw [hd] at hl
    obtain ⟨hx, hl'⟩ := List.cons.inj hl
    have hb := bt_nat s i
    rw [hx] at hb
    have hc := cut_one s i hlt
    rw [hx] at hc
    have hcs : (s.extract i (i + 1)).size = 1 := by rw [size_bytes, hc]; rfl
    rw [qbody_cons] at hR
    have h92 : ((⟨#[92]⟩ : ByteArray)).size = 1 := rfl
    have hsz : (o ++ (⟨#[92]⟩ : ByteArray)).size = o.size + 1 := by rw [ByteArray.size_append]; rfl
    refine Ev.step (fun k => by rw [spec_QuoteText.l0]) ?_
    simp only [hb, w64s (show i + 1 < 9223372036854775808 by omega), show (i : Int) < (s.size : Int) by omega, show (0 : Int) ≤ (i : Int) by omega, if_true,
      show ((i : Int)) ≤ ((i + 1 : Nat) : Int) by omega, show ((i + 1 : Nat) : Int) ≤ (s.size : Int) by omega, Int.toNat_natCast, hcs, hsz,
      show o.size + 2 ≤ 9223372036854775807 by omega, show o.size + 1 ≤ 9223372036854775807 by omega]
    by_cases h10 : x = 10
    · simp only [h10, if_true]
      refine ih (i + 1) _ R hl' (by omega) ?_ ?_
      · rw [ByteArray.size_append]; show _ + 2 ≤ _; omega
      · rw [hR, bytesOf_app, h10]; simp [esc, lit_bytes2]
    · by_cases h34 : x = 34
      · simp only [h34, if_true, if_neg (show ¬ (34 : Int) = 10 by decide)]
        refine ih (i + 1) _ R hl' (by omega) ?_ ?_
        · rw [ByteArray.size_append, hsz, hcs]; omega
        · rw [hR, bytesOf_app, bytesOf_app, hc, h34]; simp [esc, lit_bytes1]
      · by_cases h92 : x = 92
        · simp only [h92, if_true, if_neg (show ¬ (92 : Int) = 10 by decide), if_neg (show ¬ (92 : Int) = 34 by decide)]
          refine ih (i + 1) _ R hl' (by omega) ?_ ?_
          · rw [ByteArray.size_append, hsz, hcs]; omega
          · rw [hR, bytesOf_app, bytesOf_app, hc, h92]; simp [esc, lit_bytes1]
        · simp only [h10, h34, h92, if_false]
          refine ih (i + 1) _ R hl' (by omega) ?_ ?_
          · rw [ByteArray.size_append, hcs]; omega
          · rw [hR, bytesOf_app, hc]; simp [esc, h10, h34, h92]
theorem spec_qt (s : ByteArray) (hs : s.size ≤ 140737488351232) : Ev (fun k => spec_QuoteText.f k s) (strOfNums (qt (bytesOf s))) := by
  unfold spec_QuoteText.f
  refine ev_bind (spec_tv s hs) ?_
  by_cases h : tv (bytesOf s) = true
  · simp only [h, if_true]
    refine spec_qt_l s hs (bytesOf s) 0 _ _ rfl (by omega) (by show 1 ≤ _; omega) ?_
    rw [bytesOf_str _ (qt_range _ (bytesOf_range s))]
    unfold qt; rw [if_pos h]; rfl
  · simp only [h]
    refine ev_const fun k => ?_
    unfold qt; rw [if_neg h]; rfl

theorem spec_uq_l (s : ByteArray) (hs : s.size ≤ 140737488351232) (h1s : 1 ≤ s.size) (res : ByteArray × Bool) : ∀ (n : Nat) (M : List Int) (i : Nat) (o R : ByteArray), M.length ≤ n → (bytesOf s).drop i = M → i ≤ s.size →
    o.size ≤ i → bytesOf R = bytesOf o ++ uq M →
    Ev (fun k => (spec_QuoteText.f k R).bind fun t => if t.toList = s.toList then some (R, true) else some ((⟨#[]⟩ : ByteArray), false)) res →
    Ev (fun k => spec_UnquoteText.l0 k s o (i : Int)) res := by
  intro n
  induction n with
  | zero =>
    intro M i o R hn hl hi ho hR hE
    have hM : M = [] := List.length_eq_zero_iff.1 (by omega)
    subst hM
    have hz : s.size = i := by
      have := List.drop_eq_nil_iff.1 hl
      rw [bytesOf_length] at this; omega
    refine Ev.step (fun k => by rw [spec_UnquoteText.l0]) ?_
    simp only [w64 (n := (s.size : Int) - 1) (by omega) (by omega), if_neg (show ¬ (i : Int) < (s.size : Int) - 1 by omega)]
    have : o = R := bytesOf_inj (by rw [hR]; simp [uq])
    subst this
    exact hE
  | succ n ih =>
    intro M i o R hn hl hi ho hR hE
    have hML : M.length = s.size - i := by rw [← hl, List.length_drop, bytesOf_length]
    refine Ev.step (fun k => by rw [spec_UnquoteText.l0]) ?_
    match M, hn, hl, hR, hML with
    | [], hn, hl, hR, hML =>
      simp only [List.length_nil] at hML
      simp only [w64 (n := (s.size : Int) - 1) (by omega) (by omega), if_neg (show ¬ (i : Int) < (s.size : Int) - 1 by omega)]
      have : o = R := bytesOf_inj (by rw [hR]; simp [uq])
      subst this
      exact hE
    | [x], hn, hl, hR, hML =>
      simp only [List.length_cons, List.length_nil] at hML
      simp only [w64 (n := (s.size : Int) - 1) (by omega) (by omega), if_neg (show ¬ (i : Int) < (s.size : Int) - 1 by omega)]
      have : o = R := bytesOf_inj (by rw [hR]; simp [uq])
      subst this
      exact hE
    | x :: y :: l, hn, hl, hR, hML =>
      simp only [List.length_cons] at hML hn
      have hd := drop_cons (bytesOf s) i (by rw [bytesOf_length]; omega)
      have hd2 := drop_cons (bytesOf s) (i + 1) (by rw [bytesOf_length]; omega)
      rw [hd] at hl
      obtain ⟨hx, hl'⟩ := List.cons.inj hl
      rw [hd2] at hl'
      obtain ⟨hy, hl''⟩ := List.cons.inj hl'
      have hb := bt_nat s i
      have hb2 := bt_nat s (i + 1)
      rw [hx] at hb
      rw [hy] at hb2
      have hc := cut_one s i (by omega)
      have hc2 := cut_one s (i + 1) (by omega)
      rw [hx] at hc
      rw [hy] at hc2
      have hcs : (s.extract i (i + 1)).size = 1 := by rw [size_bytes, hc]; rfl
      have hcs2 : (s.extract (i + 1) (i + 1 + 1)).size = 1 := by rw [size_bytes, hc2]; rfl
      rw [uq] at hR
      simp only [w64 (n := (s.size : Int) - 1) (by omega) (by omega), if_pos (show (i : Int) < (s.size : Int) - 1 by omega), hb, w64s (show i + 1 < 9223372036854775808 by omega), w64s (show i + 1 + 1 < 9223372036854775808 by omega),
        show (0 : Int) ≤ (i : Int) by omega, show (0 : Int) ≤ ((i + 1 : Nat) : Int) by omega, show (i : Int) < (s.size : Int) by omega, show ((i + 1 : Nat) : Int) < (s.size : Int) by omega, if_true, hb2,
        show (i : Int) ≤ ((i + 1 : Nat) : Int) by omega, show ((i + 1 : Nat) : Int) ≤ ((i + 1 + 1 : Nat) : Int) by omega,
        show ((i + 1 : Nat) : Int) ≤ (s.size : Int) by omega, show ((i + 1 + 1 : Nat) : Int) ≤ (s.size : Int) by omega, Int.toNat_natCast, hcs, hcs2, show o.size + 1 ≤ 9223372036854775807 by omega]
      by_cases h92 : x = 92
      · simp only [if_pos h92]
        rw [if_pos h92] at hR
        by_cases h110 : y = 110
        · simp only [if_pos h110]
          refine ih l (i + 1 + 1) _ R (by omega) hl'' (by omega) ?_ ?_ hE
          · rw [ByteArray.size_append]; show _ + 1 ≤ _; omega
          · rw [hR, bytesOf_app, h110]; simp [unb, lit_bytes1]
        · simp only [if_neg h110]
          refine ih l (i + 1 + 1) _ R (by omega) hl'' (by omega) ?_ ?_ hE
          · rw [ByteArray.size_append, hcs2]; omega
          · rw [hR, bytesOf_app, hc2]; simp [unb, h110]
      · simp only [if_neg h92]
        rw [if_neg h92] at hR
        refine ih (y :: l) (i + 1) _ R (by simp; omega) (by rw [hd2, hy, hl'']) (by omega) ?_ ?_ hE
        · rw [ByteArray.size_append, hcs]; omega
        · rw [hR, bytesOf_app, hc]; simp
theorem spec_uq (s : ByteArray) (hs : s.size ≤ 140737488351232) : Ev (fun k => spec_UnquoteText.f k s) (strOfNums (uqt (bytesOf s)).1, (uqt (bytesOf s)).2) := by
  have hL := bytesOf_length s
  have hno : ¬ (2 ≤ (bytesOf s).length ∧ tv (uq ((bytesOf s).drop 1)) = true ∧ 34 :: qbody (uq ((bytesOf s).drop 1)) = bytesOf s) →
      Ev (fun k => spec_UnquoteText.j0 k s true) (strOfNums (uqt (bytesOf s)).1, (uqt (bytesOf s)).2) := by
    intro hn
    refine Ev.step (fun k => by rw [spec_UnquoteText.j0]) ?_
    unfold uqt
    rw [if_neg hn]
    exact Ev.now _
  unfold spec_UnquoteText.f
  by_cases h2 : s.size < 2
  · simp only [if_pos (show (s.size : Int) < 2 by omega)]
    exact hno (fun h => by omega)
  · simp only [if_neg (show ¬ (s.size : Int) < 2 by omega), if_pos (show (0 : Int) < (s.size : Int) by omega)]
    have hb0 := bt_nat s 0
    have hbl := bt_nat s (s.size - 1)
    rw [show ((s.size - 1 : Nat) : Int) = (s.size : Int) - 1 by omega] at hbl
    have hlast : (bytesOf s).getLast? = some ((bytesOf s).getD (s.size - 1) 0) := by
      rw [List.getLast?_eq_getElem?, hL, List.getD_eq_getElem?_getD]
      rw [List.getElem?_eq_getElem (by omega)]; rfl
    simp only [w64 (n := (s.size : Int) - 1) (by omega) (by omega), if_pos (show (0 : Int) ≤ (s.size : Int) - 1 by omega), if_pos (show (s.size : Int) - 1 < (s.size : Int) by omega)]
    by_cases h34 : bt s 0 = 34
    · simp only [if_pos h34]
      refine Ev.step (fun k => by rw [spec_UnquoteText.j0]) ?_
      by_cases hl34 : bt s ((s.size : Int) - 1) = 34
      · simp only [hl34, bne_self_eq_false, Bool.false_eq_true, if_false]
        refine spec_uq_l s hs (by omega) _ _ ((bytesOf s).drop 1) 1 _ (strOfNums (uq ((bytesOf s).drop 1))) (Nat.le_refl _) rfl (by omega) (by show 0 ≤ _; omega) ?_ ?_
        · rw [bytesOf_str _ (uq_range _ _ (Nat.le_refl _) (fun y hy => bytesOf_range s y (List.mem_of_mem_drop hy)))]; rfl
        · have hqr := uq_range _ _ (Nat.le_refl _) (fun y hy => bytesOf_range s y (List.mem_of_mem_drop (i := 1) hy))
          refine ev_bind (spec_qt _ ?_) (ev_const fun k => ?_)
          · rw [strOfNums_size]
            have := uq_len _ ((bytesOf s).drop 1) (Nat.le_refl _)
            rw [List.length_drop] at this; omega
          · have hq := qt_eq_iff (uq ((bytesOf s).drop 1)) (bytesOf s) (by omega)
            rw [bytesOf_str _ hqr]
            unfold uqt
            by_cases hc : qt (uq ((bytesOf s).drop 1)) = bytesOf s
            · rw [if_pos (by rw [toList_iff, bytesOf_str _ (qt_range _ hqr)]; exact hc), if_pos ⟨by omega, hq.1 hc⟩]
            · rw [if_neg (by rw [toList_iff, bytesOf_str _ (qt_range _ hqr)]; exact hc), if_neg (fun h => hc (hq.2 h.2))]; rfl
      · have : (bt s ((s.size : Int) - 1) != 34) = true := by simpa using hl34
        simp only [this, if_true]
        refine Ev.congr (fun k => rfl) ?_
        unfold uqt
        rw [if_neg]
        · exact Ev.now _
        · rintro ⟨_, _, h⟩
          rw [← h] at hlast
          rw [List.getLast?_cons, qbody_last] at hlast
          rw [h] at hlast
          simp at hlast
          rw [hbl] at hl34
          exact hl34 (by simpa [List.getD_eq_getElem?_getD] using hlast.symm)
    · simp only [if_neg h34]
      refine hno ?_
      rintro ⟨_, _, h⟩
      have h0 := congrArg (fun l => l.getD 0 0) h
      have e0 : bt s 0 = (bytesOf s).getD 0 0 := hb0
      rw [e0] at h34
      exact h34 h0.symm

theorem in_eq (x : Int) : impl_in.f x 32 126 = some (decide (32 ≤ x) && decide (x ≤ 126)) := by
  unfold impl_in.f
  by_cases h : x ≥ 32
  · rw [if_pos h, decide_eq_true h]; rfl
  · rw [if_neg h, decide_eq_false h]; rfl
theorem impl_tv_l (s : ByteArray) (hs : s.size ≤ 140737488351232) : ∀ (l : List Int) (i : Nat), (bytesOf s).drop i = l → i ≤ s.size →
    Ev (fun k => impl_TextValid.l0 k s (i : Int)) (l.all okb && decide ((bytesOf s).length ≤ 20000)) := by
  intro l
  induction l with
  | nil =>
    intro i hl hi
    have hn : s.size = i := by
      have := List.drop_eq_nil_iff.1 hl
      rw [bytesOf_length] at this; omega
    refine Ev.step (fun k => by rw [impl_TextValid.l0]) (ev_const fun k => ?_)
    rw [if_neg (by omega), bytesOf_length]; simp; omega
  | cons x l ih =>
    intro i hl hi
    have hlt : i < s.size := by
      rcases Nat.lt_or_ge i s.size with h | h
      · exact h
      · rw [List.drop_eq_nil_iff.2 (by rw [bytesOf_length]; exact h)] at hl; cases hl
    have hd := drop_cons (bytesOf s) i (by rw [bytesOf_length]; exact hlt)
    rw [hd] at hl
    obtain ⟨hx, hl'⟩ := List.cons.inj hl
    have hr := getD_range s i
    have hb := bt_nat s i
    rw [hx] at hb hr
    have h1 := ih (i + 1) hl' (by omega)
    refine Ev.step (fun k => by rw [impl_TextValid.l0]) ?_
    simp only [hb, w64s (show i + 1 < 9223372036854775808 by omega), w64 (n := x) (by omega) (by omega), in_eq, Option.bind_some, show (i : Int) < (s.size : Int) by omega, show (0 : Int) ≤ (i : Int) by omega, if_true]
    by_cases h10 : x = 10
    · subst h10
      simp only [if_true, List.all_cons, okb_ten, Bool.true_and]; exact h1
    · simp only [h10, if_false, List.all_cons, okb_in x h10]
      cases hq : (decide (32 ≤ x) && decide (x ≤ 126))
      · simp; exact Ev.now _
      · simp; simpa using h1
theorem impl_tv (s : ByteArray) (hs : s.size ≤ 140737488351232) : Ev (fun k => impl_TextValid.f k s) (tv (bytesOf s)) := by
  have := impl_tv_l s hs (bytesOf s) 0 rfl (by omega)
  exact this

theorem impl_qd_l (s : ByteArray) (hs : s.size ≤ 1048576) : ∀ (l : List Int) (i : Nat) (o : List Int) (R : ByteArray), (bytesOf s).drop i = l → i ≤ s.size →
    o.length ≤ 2 * i + 1 → (∀ y ∈ o, 0 ≤ y ∧ y ≤ 255) → bytesOf R = o ++ qbody l → Ev (fun k => impl_quoted.l0 k s o (i : Int)) R := by
  intro l
  induction l with
  | nil =>
    intro i o R hl hi ho hor hR
    have hn : s.size = i := by
      have := List.drop_eq_nil_iff.1 hl
      rw [bytesOf_length] at this; omega
    refine Ev.step (fun k => by rw [impl_quoted.l0]) (ev_const fun k => ?_)
    rw [if_neg (by omega), if_pos (by omega)]
    congr 1
    apply bytesOf_inj
    rw [hR, bytesOf_str]
    · rfl
    · intro y hy
      rcases List.mem_append.1 hy with hy | hy
      · exact hor y hy
      · simp at hy; omega
  | cons x l ih =>
    intro i o R hl hi ho hor hR
    have hlt : i < s.size := by
      rcases Nat.lt_or_ge i s.size with h | h
      · exact h
      · rw [List.drop_eq_nil_iff.2 (by rw [bytesOf_length]; exact h)] at hl; cases hl
    have hd := drop_cons (bytesOf s) i (by rw [bytesOf_length]; exact hlt)
    rw [hd] at hl
    obtain ⟨hx, hl'⟩ := List.cons.inj hl
    have hb := bt_nat s i
    have hr := getD_range s i
    rw [hx] at hb hr
    rw [qbody_cons] at hR
    have h1 : Ev (fun k => impl_quoted.l0 k s (o ++ esc x) ((i + 1 : Nat) : Int)) R := by
      refine ih (i + 1) _ R hl' (by omega) ?_ ?_ ?_
      · rw [List.length_append]; have := esc_len x; omega
      · intro y hy
        rcases List.mem_append.1 hy with hy | hy
        · exact hor y hy
        · exact esc_range x hr y hy
      · rw [hR]; simp
    have hj : ∀ b : Bool, b = (x == 34 || x == 92) → Ev (fun k => impl_quoted.j1 k s o (i : Int) x b) R := by
      intro b hbb
      refine Ev.step (fun k => by rw [impl_quoted.j1]) ?_
      simp only [hb, w64s (show i + 1 < 9223372036854775808 by omega), show (i : Int) < (s.size : Int) by omega, show (0 : Int) ≤ (i : Int) by omega, if_true, Option.bind_some,
        List.length_cons, List.length_nil, show o.length + (0 + 1 + 1) < 140737488355328 by omega, show o.length < 140737488355328 by omega]
      by_cases h34 : x = 34
      · subst h34
        subst hbb
        simpa [esc] using h1
      · by_cases h92 : x = 92
        · subst h92
          subst hbb
          simpa [esc] using h1
        · have hbf : b = false := by rw [hbb]; simp [h34, h92]
          subst hbf
          by_cases h10 : x = 10
          · subst h10
            simpa [esc] using h1
          · simpa [esc, h34, h92, h10] using h1
    refine Ev.step (fun k => by rw [impl_quoted.l0]) ?_
    simp only [hb, show (i : Int) < (s.size : Int) by omega, show (0 : Int) ≤ (i : Int) by omega, if_true]
    by_cases h34 : x = 34
    · simp only [if_pos h34]
      exact hj _ (by simp [h34])
    · simp only [if_neg h34]
      exact hj _ (by simp [h34])
theorem impl_qd (s : ByteArray) (hs : s.size ≤ 1048576) : Ev (fun k => impl_quoted.f k s) (strOfNums (34 :: qbody (bytesOf s))) := by
  unfold impl_quoted.f
  refine impl_qd_l s hs (bytesOf s) 0 _ _ rfl (by omega) (by simp) (by simp) ?_
  rw [bytesOf_str]
  · rfl
  · intro y hy
    rcases List.mem_cons.1 hy with hy | hy
    · omega
    · exact qbody_range _ (bytesOf_range s) y hy

theorem impl_uq_l (s : ByteArray) (hs : s.size ≤ 1048576) (h1s : 1 ≤ s.size) (res : ByteArray × Bool) : ∀ (n : Nat) (M : List Int) (i : Nat) (o R : List Int), M.length ≤ n → (bytesOf s).drop i = M → i ≤ s.size →
    o.length ≤ i → R = o ++ uq M →
    Ev (fun k => (impl_TextValid.f k (strOfNums R)).bind fun t => if t = true then ((impl_quoted.f k (strOfNums R)).bind fun t => if t.toList = s.toList then some (strOfNums R, true) else some ((⟨#[]⟩ : ByteArray), false)) else some ((⟨#[]⟩ : ByteArray), false)) res →
    Ev (fun k => impl_UnquoteText.l0 k s o (i : Int)) res := by
  intro n
  induction n with
  | zero =>
    intro M i o R hn hl hi ho hR hE
    have hM : M = [] := List.length_eq_zero_iff.1 (by omega)
    subst hM
    have hz : s.size = i := by
      have := List.drop_eq_nil_iff.1 hl
      rw [bytesOf_length] at this; omega
    refine Ev.step (fun k => by rw [impl_UnquoteText.l0]) ?_
    simp only [w64 (n := (s.size : Int) - 1) (by omega) (by omega), if_neg (show ¬ (i : Int) < (s.size : Int) - 1 by omega)]
    have : o = R := by rw [hR]; simp [uq]
    subst this
    exact hE
  | succ n ih =>
    intro M i o R hn hl hi ho hR hE
    have hML : M.length = s.size - i := by rw [← hl, List.length_drop, bytesOf_length]
    refine Ev.step (fun k => by rw [impl_UnquoteText.l0]) ?_
    match M, hn, hl, hR, hML with
    | [], hn, hl, hR, hML =>
      simp only [List.length_nil] at hML
      simp only [w64 (n := (s.size : Int) - 1) (by omega) (by omega), if_neg (show ¬ (i : Int) < (s.size : Int) - 1 by omega)]
      have : o = R := by rw [hR]; simp [uq]
      subst this
      exact hE
    | [x], hn, hl, hR, hML =>
      simp only [List.length_cons, List.length_nil] at hML
      simp only [w64 (n := (s.size : Int) - 1) (by omega) (by omega), if_neg (show ¬ (i : Int) < (s.size : Int) - 1 by omega)]
      have : o = R := by rw [hR]; simp [uq]
      subst this
      exact hE
    | x :: y :: l, hn, hl, hR, hML =>
      simp only [List.length_cons] at hML hn
      have hd := drop_cons (bytesOf s) i (by rw [bytesOf_length]; omega)
      have hd2 := drop_cons (bytesOf s) (i + 1) (by rw [bytesOf_length]; omega)
      rw [hd] at hl
      obtain ⟨hx, hl'⟩ := List.cons.inj hl
      rw [hd2] at hl'
      obtain ⟨hy, hl''⟩ := List.cons.inj hl'
      have hb := bt_nat s i
      have hb2 := bt_nat s (i + 1)
      rw [hx] at hb
      rw [hy] at hb2
      rw [uq] at hR
      simp only [w64 (n := (s.size : Int) - 1) (by omega) (by omega), if_pos (show (i : Int) < (s.size : Int) - 1 by omega), hb, w64s (show i + 1 < 9223372036854775808 by omega), w64s (show i + 1 + 1 < 9223372036854775808 by omega),
        show (0 : Int) ≤ (i : Int) by omega, show (0 : Int) ≤ ((i + 1 : Nat) : Int) by omega, show (i : Int) < (s.size : Int) by omega, show ((i + 1 : Nat) : Int) < (s.size : Int) by omega, if_true, hb2,
        show o.length < 140737488355328 by omega]
      by_cases h92 : x = 92
      · simp only [if_pos h92]
        rw [if_pos h92] at hR
        by_cases h110 : y = 110
        · simp only [if_pos h110]
          refine ih l (i + 1 + 1) _ R (by omega) hl'' (by omega) (by simp; omega) ?_ hE
          rw [hR, h110]; simp [unb]
        · simp only [if_neg h110]
          refine ih l (i + 1 + 1) _ R (by omega) hl'' (by omega) (by simp; omega) ?_ hE
          rw [hR]; simp [unb, h110]
      · simp only [if_neg h92]
        rw [if_neg h92] at hR
        refine ih (y :: l) (i + 1) _ R (by simp; omega) (by rw [hd2, hy, hl'']) (by omega) (by simp; omega) ?_ hE
        rw [hR]; simp
theorem impl_uq (s : ByteArray) (hs : s.size ≤ 140737488351232) : Ev (fun k => impl_UnquoteText.f k s) (strOfNums (uqt (bytesOf s)).1, (uqt (bytesOf s)).2) := by
  have hL := bytesOf_length s
  have hno : ¬ (2 ≤ (bytesOf s).length ∧ tv (uq ((bytesOf s).drop 1)) = true ∧ 34 :: qbody (uq ((bytesOf s).drop 1)) = bytesOf s) →
      Ev (fun k => impl_UnquoteText.j0 k s true) (strOfNums (uqt (bytesOf s)).1, (uqt (bytesOf s)).2) := by
    intro hn
    refine Ev.step (fun k => by rw [impl_UnquoteText.j0]) ?_
    unfold uqt
    rw [if_neg hn]
    exact Ev.now _
  unfold impl_UnquoteText.f
  by_cases h2 : s.size < 2
  · simp only [if_pos (show (s.size : Int) < 2 by omega)]
    exact hno (fun h => by omega)
  · simp only [if_neg (show ¬ (s.size : Int) < 2 by omega)]
    by_cases hbig : s.size > 40002
    · rw [decide_eq_true (show (s.size : Int) > 40002 by omega)]
      refine hno ?_
      rintro ⟨_, ht, h⟩
      have h1 := tv_len ht
      have h3 := qbody_len (uq ((bytesOf s).drop 1))
      have h4 := congrArg List.length h
      simp only [List.length_cons] at h4
      omega
    · rw [decide_eq_false (show ¬ (s.size : Int) > 40002 by omega)]
      refine Ev.step (fun k => by rw [impl_UnquoteText.j0]) ?_
      simp only [Bool.false_eq_true, if_false]
      have hqr := uq_range _ _ (Nat.le_refl _) (fun y hy => bytesOf_range s y (List.mem_of_mem_drop (i := 1) hy))
      have hle := uq_len _ ((bytesOf s).drop 1) (Nat.le_refl _)
      rw [List.length_drop] at hle
      refine impl_uq_l s (by omega) (by omega) _ _ ((bytesOf s).drop 1) 1 _ (uq ((bytesOf s).drop 1)) (Nat.le_refl _) rfl (by omega) (by simp) rfl ?_
      refine ev_bind (impl_tv _ (by rw [strOfNums_size]; omega)) ?_
      rw [bytesOf_str _ hqr]
      unfold uqt
      by_cases ht : tv (uq ((bytesOf s).drop 1)) = true
      · simp only [ht, if_true]
        refine ev_bind (impl_qd _ (by rw [strOfNums_size]; omega)) (ev_const fun k => ?_)
        rw [bytesOf_str _ hqr]
        have hq2 : ∀ y ∈ 34 :: qbody (uq ((bytesOf s).drop 1)), 0 ≤ y ∧ y ≤ 255 := by
          intro y hy
          rcases List.mem_cons.1 hy with hy | hy
          · omega
          · exact qbody_range _ hqr y hy
        by_cases hc : 34 :: qbody (uq ((bytesOf s).drop 1)) = bytesOf s
        · rw [if_pos (by rw [toList_iff, bytesOf_str _ hq2]; exact hc), if_pos ⟨by omega, trivial, hc⟩]
        · rw [if_neg (by rw [toList_iff, bytesOf_str _ hq2]; exact hc), if_neg (fun h => hc h.2.2)]; rfl
      · simp only [ht]
        rw [if_neg (fun h => by simp at h)]
        exact Ev.now _

theorem impl_qt (s : ByteArray) (hs : s.size ≤ 140737488351232) : Ev (fun k => impl_QuoteText.f k s) (strOfNums (qt (bytesOf s))) := by
  unfold impl_QuoteText.f
  refine ev_bind (impl_tv s hs) ?_
  by_cases h : tv (bytesOf s) = true
  · have hz := tv_len h
    rw [bytesOf_length] at hz
    simp only [h, if_true]
    refine ev_bind (impl_qd s (by omega)) (ev_const fun k => ?_)
    unfold qt; rw [if_pos h]
  · simp only [h]
    refine ev_const fun k => ?_
    unfold qt; rw [if_neg h]; rfl

theorem tmod_nn (a b : Int) (ha : 0 ≤ a) (hb : 0 < b) : 0 ≤ Int.tmod a b ∧ Int.tmod a b < b ∧ Int.tmod a b ≤ a := by
  rw [Int.tmod_eq_emod_of_nonneg ha]
  refine ⟨Int.emod_nonneg _ (by omega), Int.emod_lt_of_pos _ hb, ?_⟩
  have := Int.emod_add_mul_ediv a b
  have h2 : 0 ≤ a / b := Int.ediv_nonneg ha (by omega)
  have h3 : 0 ≤ b * (a / b) := Int.mul_nonneg (by omega) h2
  omega
theorem tdiv_nn (a b : Int) (ha : 0 ≤ a) (hb : 0 < b) : 0 ≤ Int.tdiv a b ∧ Int.tdiv a b ≤ a := by
  rw [Int.tdiv_eq_ediv_of_nonneg ha]
  exact ⟨Int.ediv_nonneg ha (by omega), Int.ediv_le_self _ ha⟩

/-! the reader that the inputs are drawn from -/
theorem xor_small (a b : Int) (ha : 0 ≤ a) (ha' : a < 4611686018427387904) (hb : 0 ≤ b) (hb' : b < 4611686018427387904) :
    0 ≤ Go.bits .xor .i64 a b ∧ Go.bits .xor .i64 a b < 4611686018427387904 := by
  obtain ⟨m, rfl⟩ := Int.eq_ofNat_of_zero_le ha
  obtain ⟨n, rfl⟩ := Int.eq_ofNat_of_zero_le hb
  have hx : m ^^^ n < 2 ^ 62 := Nat.xor_lt_two_pow (by omega) (by omega)
  have h1 : m % 2 ^ 64 = m := Nat.mod_eq_of_lt (by omega)
  have h2 : n % 2 ^ 64 = n := Nat.mod_eq_of_lt (by omega)
  have e : Go.bits .xor .i64 (m : Int) (n : Int) = ((m ^^^ n : Nat) : Int) := by
    have e1 : (BitVec.ofNat 64 m ^^^ BitVec.ofNat 64 n).toNat = m ^^^ n := by
      rw [BitVec.toNat_xor, BitVec.toNat_ofNat, BitVec.toNat_ofNat, h1, h2]
    show Go.IntKind.i64.wrap (((BitVec.ofInt 64 (m : Int) ^^^ BitVec.ofInt 64 (n : Int)).toNat : Nat) : Int) = _
    rw [BitVec.ofInt_natCast, BitVec.ofInt_natCast, e1, Go.IntKind.wrap_i64]; omega
  rw [e]; omega
/-- what is known of the reader's bytes. -/
def Bys (L : List Int) : Prop := L.length ≤ 2000 ∧ ∀ x ∈ L, 0 ≤ x ∧ x ≤ 255
theorem Bys.rd {L : List Int} (h : Bys L) (i : Int) : 0 ≤ rd L i ∧ rd L i ≤ 255 := by
  unfold Go.Proofs.YtahjhpkaicpioaaW.PrintWords.rd
  rw [List.getD_eq_getElem?_getD]
  rcases Nat.lt_or_ge i.toNat L.length with hl | hl
  · rw [List.getElem?_eq_getElem hl]
    exact h.2 _ (List.getElem_mem hl)
  · rw [List.getElem?_eq_none hl]; simp
theorem pick_ev (L : List Int) (hL : Bys L) (p n : Int) (hp : 0 ≤ p) (hp' : p ≤ 1099511627776) (hn : 1 ≤ n) :
    ∃ v, 0 ≤ v ∧ v < n ∧ Ev (fun k => spec_l20Rd_pick.f k L p n) (v, p + 1) := by
  have hlen := hL.1
  have hp1 : wrap64 (p + 1) = p + 1 := w64 (by omega) (by omega)
  have hp2 : wrap64 (p + 1 - 1) = p := by rw [w64 (by omega) (by omega)]; omega
  by_cases h0 : L.length = 0
  · refine ⟨0, by omega, by omega, ?_⟩
    unfold spec_l20Rd_pick.f
    simp only [if_neg (show ¬ n < 1 by omega), hp1]
    refine Ev.step (fun k => by rw [spec_l20Rd_pick.j0]) ?_
    simp only [show ((L.length : Int) == 0) = true by simpa using h0, if_true]
    exact Ev.now _
  · by_cases hlt : p < (L.length : Int)
    · have hr := hL.rd p
      have ht := tmod_nn (rd L p) n hr.1 (by omega)
      refine ⟨_, ht.1, ht.2.1, ?_⟩
      unfold spec_l20Rd_pick.f
      simp only [if_neg (show ¬ n < 1 by omega), hp1]
      refine Ev.step (fun k => by rw [spec_l20Rd_pick.j0]) ?_
      simp only [show ((L.length : Int) == 0) = false by simpa using h0, Bool.false_eq_true, if_false, hp2, if_pos hlt, if_pos hp, if_neg (show ¬ n = 0 by omega), w64 (n := rd L p) (by omega) (by omega)]
      exact Ev.now _
    · have hpos : (0 : Int) < (L.length : Int) := by omega
      have hi1 := tmod_nn p L.length hp hpos
      have hw7 : wrap64 (wrap64 (p * 7) + 3) = p * 7 + 3 := by rw [w64 (n := p * 7) (by omega) (by omega), w64 (by omega) (by omega)]
      have hi2 := tmod_nn (p * 7 + 3) L.length (by omega) hpos
      have hd := tdiv_nn p L.length hp hpos
      have r1 := hL.rd (Int.tmod p L.length)
      have r2 := hL.rd (Int.tmod (p * 7 + 3) L.length)
      have hX : wrap64 (wrap64 (wrap64 (wrap64 (wrap64 (rd L (Int.tmod p L.length)) * 131) + wrap64 (wrap64 (rd L (Int.tmod (p * 7 + 3) L.length)) * 1117)) + wrap64 (p * 29)) + wrap64 (wrap64 (Int.tdiv p L.length) * 53))
          = rd L (Int.tmod p L.length) * 131 + rd L (Int.tmod (p * 7 + 3) L.length) * 1117 + p * 29 + Int.tdiv p L.length * 53 := by
        generalize rd L (Int.tmod p L.length) = a at *
        generalize rd L (Int.tmod (p * 7 + 3) L.length) = b at *
        generalize Int.tdiv p L.length = c at *
        rw [w64 (n := a) (by omega) (by omega), w64 (n := b) (by omega) (by omega), w64 (n := c) (by omega) (by omega), w64 (n := a * 131) (by omega) (by omega), w64 (n := b * 1117) (by omega) (by omega), w64 (n := p * 29) (by omega) (by omega), w64 (n := c * 53) (by omega) (by omega)]
        rw [w64 (n := a * 131 + b * 1117) (by omega) (by omega), w64 (n := a * 131 + b * 1117 + p * 29) (by omega) (by omega), w64 (by omega) (by omega)]
      have hX0 : 0 ≤ rd L (Int.tmod p L.length) * 131 + rd L (Int.tmod (p * 7 + 3) L.length) * 1117 + p * 29 + Int.tdiv p L.length * 53 := by omega
      have hX1 : rd L (Int.tmod p L.length) * 131 + rd L (Int.tmod (p * 7 + 3) L.length) * 1117 + p * 29 + Int.tdiv p L.length * 53 < 4611686018427387904 := by omega
      generalize hXe : rd L (Int.tmod p L.length) * 131 + rd L (Int.tmod (p * 7 + 3) L.length) * 1117 + p * 29 + Int.tdiv p L.length * 53 = X at *
      have hq := tdiv_nn X 64 hX0 (by omega)
      have hx := xor_small X (Int.tdiv X 64) hX0 hX1 hq.1 (by omega)
      have ht := tmod_nn _ n hx.1 (by omega)
      refine ⟨_, ht.1, ht.2.1, ?_⟩
      unfold spec_l20Rd_pick.f
      simp only [if_neg (show ¬ n < 1 by omega), hp1]
      refine Ev.step (fun k => by rw [spec_l20Rd_pick.j0]) ?_
      simp only [show ((L.length : Int) == 0) = false by simpa using h0, Bool.false_eq_true, if_false, hp2, if_neg hlt, if_neg (show ¬ (L.length : Int) = 0 by omega), if_neg (show ¬ n = 0 by omega),
        if_pos hi1.1, if_pos hi1.2.1, hw7, if_pos hi2.1, if_pos hi2.2.1, hX, w64 (n := Int.tdiv X 64) (by omega) (by omega)]
      exact Ev.now _
theorem odd_ev (L : List Int) (hL : Bys L) (p n : Int) (hp : 0 ≤ p) (hp' : p ≤ 1099511627776) (hn : 0 ≤ n) (hn' : n ≤ 1000000) :
    ∃ b q, p ≤ q ∧ q ≤ p + 1 ∧ Ev (fun k => spec_l20Rd_odd.f k L p n) (b, q) := by
  unfold spec_l20Rd_odd.f
  by_cases h : n > 0
  · obtain ⟨v, h0, h1, hv⟩ := pick_ev L hL p n hp hp' (by omega)
    refine ⟨(v == wrap64 (n - 1)), p + 1, by omega, by omega, ?_⟩
    simp only [if_pos h]
    exact ev_bind hv (Ev.now _)
  · refine ⟨false, p, by omega, by omega, ?_⟩
    simp only [if_neg h]
    exact Ev.now _
theorem open_ev (l : List Int) (hw : ∀ x ∈ l, (Lit.int .u8 x).wf = true) : ∃ L, Bys L ∧ spec_l20Open.f l = some (L, 0) := by
  have hr : ∀ x ∈ l, 0 ≤ x ∧ x ≤ 255 := by
    intro x hx
    have := hw x hx
    simp [Lit.wf, IntKind.min, IntKind.max, IntKind.signed, IntKind.bits] at this
    omega
  unfold spec_l20Open.f
  by_cases h : (l.length : Int) > 2000
  · refine ⟨l.take 2000, ⟨by simp; omega, fun x hx => hr x (List.mem_of_mem_take hx)⟩, ?_⟩
    rw [if_pos h, if_pos (by omega)]
  · refine ⟨l, ⟨by omega, hr⟩, ?_⟩
    rw [if_neg h]

/-- from some number of rounds on the answer is one that P holds of. -/
def EvP {α : Type} (g : Nat → Option α) (P : α → Prop) : Prop := ∃ r, P r ∧ Ev g r
theorem EvP.now {α : Type} {P : α → Prop} {r : α} (h : P r) : EvP (fun _ => some r) P := ⟨r, h, Ev.now r⟩
theorem EvP.bind {α β : Type} {g : Nat → Option α} {f : Nat → α → Option β} {P : α → Prop} {Q : β → Prop} (h : EvP g P) (k : ∀ a, P a → EvP (fun n => f n a) Q) :
    EvP (fun n => (g n).bind (fun x => f n x)) Q := by
  obtain ⟨a, ha, he⟩ := h
  obtain ⟨b, hb, hf⟩ := k a ha
  exact ⟨b, hb, ev_bind he hf⟩
theorem EvP.step {α : Type} {g f : Nat → Option α} {P : α → Prop} (h : ∀ k, g (k + 1) = f k) (k : EvP f P) : EvP g P := by
  obtain ⟨r, hr, he⟩ := k
  exact ⟨r, hr, Ev.step h he⟩
theorem EvP.mono {α : Type} {g : Nat → Option α} {P Q : α → Prop} (h : EvP g P) (k : ∀ r, P r → Q r) : EvP g Q := by
  obtain ⟨r, hr, he⟩ := h
  exact ⟨r, k r hr, he⟩
theorem EvP.of_ev {α : Type} {g : Nat → Option α} {P : α → Prop} {r : α} (h : Ev g r) (hp : P r) : EvP g P := ⟨r, hp, h⟩
theorem pick_p (L : List Int) (hL : Bys L) (p n : Int) (hp : 0 ≤ p) (hp' : p ≤ 1099511627776) (hn : 1 ≤ n) :
    EvP (fun k => spec_l20Rd_pick.f k L p n) (fun r => 0 ≤ r.1 ∧ r.1 < n ∧ r.2 = p + 1) := by
  obtain ⟨v, h0, h1, he⟩ := pick_ev L hL p n hp hp' hn
  exact ⟨_, ⟨h0, h1, rfl⟩, he⟩
theorem odd_p (L : List Int) (hL : Bys L) (p n : Int) (hp : 0 ≤ p) (hp' : p ≤ 1099511627776) (hn : 0 ≤ n) (hn' : n ≤ 1000000) :
    EvP (fun k => spec_l20Rd_odd.f k L p n) (fun r => p ≤ r.2 ∧ r.2 ≤ p + 1) := by
  obtain ⟨b, q, h0, h1, he⟩ := odd_ev L hL p n hp hp' hn hn'
  exact ⟨_, ⟨h0, h1⟩, he⟩
theorem rd_all {P : Int → Prop} (ys : List Int) (h : ∀ y ∈ ys, P y) (i : Int) (h0 : 0 ≤ i) (hi : i < (ys.length : Int)) : P (rd ys i) := by
  unfold Go.Proofs.YtahjhpkaicpioaaW.PrintWords.rd
  have hl : i.toNat < ys.length := by omega
  rw [List.getD_eq_getElem?_getD, List.getElem?_eq_getElem hl]
  exact h _ (List.getElem_mem hl)

/-! drawn texts are short -/
theorem rdOf_small (ys : List ByteArray) (b : Nat) (h : ∀ y ∈ ys, y.size ≤ b) (i : Int) : (rdOf ByteArray.empty ys i).size ≤ b := by
  unfold rdOf
  rw [List.getD_eq_getElem?_getD]
  rcases Nat.lt_or_ge i.toNat ys.length with hl | hl
  · rw [List.getElem?_eq_getElem hl]
    exact h _ (List.getElem_mem hl)
  · rw [List.getElem?_eq_none hl]; show 0 ≤ b; omega
theorem plain_l (L : List Int) (hL : Bys L) (n : Int) (hn : 0 ≤ n) (hn' : n ≤ 1000000) : ∀ (j : Nat) (p : Int) (o : ByteArray), 0 ≤ p → p + j ≤ 1000000 → o.size + j ≤ 1000000 →
    ∃ R q, R.size ≤ o.size + j + 1 ∧ p ≤ q ∧ q ≤ p + j + 2 ∧ Ev (fun k => spec_l20Plain.l0 k n o (j : Int) L p) (R, q) := by
  intro j
  induction j with
  | zero =>
    intro p o hp hpj hoj
    obtain ⟨b, q, h1, h2, ho⟩ := odd_ev L hL p n hp (by omega) hn hn'
    cases b with
    | false =>
      refine ⟨o, q, by omega, by omega, by omega, ?_⟩
      refine Ev.step (fun k => by rw [spec_l20Plain.l0]) ?_
      simp only [if_neg (show ¬ ((0 : Nat) : Int) > 0 by omega)]
      refine ev_bind ho ?_
      simp only [Bool.false_eq_true, if_false]
      exact Ev.now _
    | true =>
      obtain ⟨v, h3, h4, hv⟩ := pick_ev L hL q 3 (by omega) (by omega) (by omega)
      have hz := rdOf_small [(⟨#[31]⟩ : ByteArray), (⟨#[127]⟩ : ByteArray), (⟨#[195]⟩ : ByteArray)] 1 (by decide) v
      refine ⟨o ++ rdOf ByteArray.empty [(⟨#[31]⟩ : ByteArray), (⟨#[127]⟩ : ByteArray), (⟨#[195]⟩ : ByteArray)] v, q + 1, by rw [ByteArray.size_append]; omega, by omega, by omega, ?_⟩
      · refine Ev.step (fun k => by rw [spec_l20Plain.l0]) ?_
        simp only [if_neg (show ¬ ((0 : Nat) : Int) > 0 by omega)]
        refine ev_bind ho ?_
        simp only [if_true, Option.bind_some]
        refine ev_bind hv ?_
        simp only [if_pos h3, List.length_cons, List.length_nil]
        simp only [if_pos (show v < ((0 + 1 + 1 + 1 : Nat) : Int) by omega)]
        simp only [if_pos (show o.size + (rdOf ByteArray.empty [(⟨#[31]⟩ : ByteArray), (⟨#[127]⟩ : ByteArray), (⟨#[195]⟩ : ByteArray)] v).size ≤ 9223372036854775807 by omega)]
        exact Ev.now _
  | succ j ih =>
    intro p o hp hpj hoj
    obtain ⟨v, h3, h4, hv⟩ := pick_ev L hL p 8 hp (by omega) (by omega)
    have hz := rdOf_small [(⟨#[97]⟩ : ByteArray), (⟨#[98]⟩ : ByteArray), (⟨#[32]⟩ : ByteArray), (⟨#[10]⟩ : ByteArray), (⟨#[34]⟩ : ByteArray), (⟨#[92]⟩ : ByteArray), (⟨#[35]⟩ : ByteArray), (⟨#[120]⟩ : ByteArray)] 1 (by decide) v
    obtain ⟨R, q, r1, r2, r3, hR⟩ := ih (p + 1) (o ++ rdOf ByteArray.empty [(⟨#[97]⟩ : ByteArray), (⟨#[98]⟩ : ByteArray), (⟨#[32]⟩ : ByteArray), (⟨#[10]⟩ : ByteArray), (⟨#[34]⟩ : ByteArray), (⟨#[92]⟩ : ByteArray), (⟨#[35]⟩ : ByteArray), (⟨#[120]⟩ : ByteArray)] v) (by omega) (by omega) (by rw [ByteArray.size_append]; omega)
    rw [ByteArray.size_append] at r1
    refine ⟨R, q, by omega, by omega, by omega, ?_⟩
    refine Ev.step (fun k => by rw [spec_l20Plain.l0]) ?_
    simp only [if_pos (show ((j + 1 : Nat) : Int) > 0 by omega), Option.bind_some]
    refine ev_bind hv ?_
    simp only [if_pos h3, List.length_cons, List.length_nil]
    simp only [if_pos (show v < ((0 + 1 + 1 + 1 + 1 + 1 + 1 + 1 + 1 : Nat) : Int) by omega)]
    simp only [if_pos (show o.size + (rdOf ByteArray.empty [(⟨#[97]⟩ : ByteArray), (⟨#[98]⟩ : ByteArray), (⟨#[32]⟩ : ByteArray), (⟨#[10]⟩ : ByteArray), (⟨#[34]⟩ : ByteArray), (⟨#[92]⟩ : ByteArray), (⟨#[35]⟩ : ByteArray), (⟨#[120]⟩ : ByteArray)] v).size ≤ 9223372036854775807 by omega),
      show wrap64 (((j + 1 : Nat) : Int) - 1) = (j : Int) by rw [w64 (by omega) (by omega)]; omega]
    exact hR
theorem plain_ev (L : List Int) (hL : Bys L) (p n : Int) (hp : 0 ≤ p) (hp' : p ≤ 1000) (hn : 0 ≤ n) (hn' : n ≤ 1000000) :
    ∃ R q, R.size ≤ 10 ∧ p ≤ q ∧ q ≤ p + 20 ∧ Ev (fun k => spec_l20Plain.f k L p n) (R, q) := by
  obtain ⟨v, h3, h4, hv⟩ := pick_ev L hL p 9 hp (by omega) (by omega)
  obtain ⟨j, rfl⟩ := Int.eq_ofNat_of_zero_le h3
  obtain ⟨R, q, r1, r2, r3, hR⟩ := plain_l L hL n hn hn' j (p + 1) (⟨#[]⟩ : ByteArray) (by omega) (by omega) (by show 0 + j ≤ _; omega)
  refine ⟨R, q, ?_, by omega, by omega, ?_⟩
  · have : (⟨#[]⟩ : ByteArray).size = 0 := rfl
    omega
  · unfold spec_l20Plain.f
    exact ev_bind hv hR

theorem rdOf_all {P : ByteArray → Prop} (ys : List ByteArray) (h : ∀ y ∈ ys, P y) (i : Int) (h0 : 0 ≤ i) (hi : i < (ys.length : Int)) : P (rdOf ByteArray.empty ys i) := by
  unfold rdOf
  have hl : i.toNat < ys.length := by omega
  rw [List.getD_eq_getElem?_getD, List.getElem?_eq_getElem hl]
  exact h _ (List.getElem_mem hl)
/-- where no invalid one is drawn, the bytes are plain. -/
theorem plain0_l (L : List Int) (hL : Bys L) : ∀ (j : Nat) (p : Int) (o : ByteArray), 0 ≤ p → p + j ≤ 1000000 → o.size + j ≤ 1000000 → (bytesOf o).all okb = true →
    ∃ R q, R.size ≤ o.size + j + 1 ∧ (bytesOf R).all okb = true ∧ p ≤ q ∧ q ≤ p + j + 2 ∧ Ev (fun k => spec_l20Plain.l0 k 0 o (j : Int) L p) (R, q) := by
  intro j
  induction j with
  | zero =>
    intro p o hp hpj hoj hok
    refine ⟨o, p, by omega, hok, by omega, by omega, ?_⟩
    refine Ev.step (fun k => by rw [spec_l20Plain.l0]) ?_
    simp only [if_neg (show ¬ ((0 : Nat) : Int) > 0 by omega)]
    have ho : Ev (fun k => spec_l20Rd_odd.f k L p 0) (false, p) := by
      unfold spec_l20Rd_odd.f
      simp only [if_neg (show ¬ (0 : Int) > 0 by omega)]
      exact Ev.now _
    refine ev_bind ho ?_
    simp only [Bool.false_eq_true, if_false]
    exact Ev.now _
  | succ j ih =>
    intro p o hp hpj hoj hok
    obtain ⟨v, h3, h4, hv⟩ := pick_ev L hL p 8 hp (by omega) (by omega)
    have hz := rdOf_all (P := fun y => y.size ≤ 1 ∧ (bytesOf y).all okb = true) [(⟨#[97]⟩ : ByteArray), (⟨#[98]⟩ : ByteArray), (⟨#[32]⟩ : ByteArray), (⟨#[10]⟩ : ByteArray), (⟨#[34]⟩ : ByteArray), (⟨#[92]⟩ : ByteArray), (⟨#[35]⟩ : ByteArray), (⟨#[120]⟩ : ByteArray)] (by decide) v h3 (by simp; omega)
    obtain ⟨R, q, r1, r4, r2, r3, hR⟩ := ih (p + 1) (o ++ rdOf ByteArray.empty [(⟨#[97]⟩ : ByteArray), (⟨#[98]⟩ : ByteArray), (⟨#[32]⟩ : ByteArray), (⟨#[10]⟩ : ByteArray), (⟨#[34]⟩ : ByteArray), (⟨#[92]⟩ : ByteArray), (⟨#[35]⟩ : ByteArray), (⟨#[120]⟩ : ByteArray)] v) (by omega) (by omega) (by rw [ByteArray.size_append]; omega)
      (by rw [bytesOf_app, List.all_append, hok, hz.2]; rfl)
    rw [ByteArray.size_append] at r1
    refine ⟨R, q, by omega, r4, by omega, by omega, ?_⟩
    refine Ev.step (fun k => by rw [spec_l20Plain.l0]) ?_
    simp only [if_pos (show ((j + 1 : Nat) : Int) > 0 by omega), Option.bind_some]
    refine ev_bind hv ?_
    simp only [if_pos h3, List.length_cons, List.length_nil]
    simp only [if_pos (show v < ((0 + 1 + 1 + 1 + 1 + 1 + 1 + 1 + 1 : Nat) : Int) by omega)]
    simp only [if_pos (show o.size + (rdOf ByteArray.empty [(⟨#[97]⟩ : ByteArray), (⟨#[98]⟩ : ByteArray), (⟨#[32]⟩ : ByteArray), (⟨#[10]⟩ : ByteArray), (⟨#[34]⟩ : ByteArray), (⟨#[92]⟩ : ByteArray), (⟨#[35]⟩ : ByteArray), (⟨#[120]⟩ : ByteArray)] v).size ≤ 9223372036854775807 by omega),
      show wrap64 (((j + 1 : Nat) : Int) - 1) = (j : Int) by rw [w64 (by omega) (by omega)]; omega]
    exact hR
theorem plain0_ev (L : List Int) (hL : Bys L) (p : Int) (hp : 0 ≤ p) (hp' : p ≤ 1000) :
    ∃ R q, R.size ≤ 10 ∧ tv (bytesOf R) = true ∧ p ≤ q ∧ q ≤ p + 20 ∧ Ev (fun k => spec_l20Plain.f k L p 0) (R, q) := by
  obtain ⟨v, h3, h4, hv⟩ := pick_ev L hL p 9 hp (by omega) (by omega)
  obtain ⟨j, rfl⟩ := Int.eq_ofNat_of_zero_le h3
  obtain ⟨R, q, r1, r4, r2, r3, hR⟩ := plain0_l L hL j (p + 1) (⟨#[]⟩ : ByteArray) (by omega) (by omega) (by show 0 + j ≤ _; omega) rfl
  have h0 : (⟨#[]⟩ : ByteArray).size = 0 := rfl
  refine ⟨R, q, by omega, ?_, by omega, by omega, ?_⟩
  · unfold tv
    rw [r4, bytesOf_length, decide_eq_true (by omega)]; rfl
  · unfold spec_l20Plain.f
    exact ev_bind hv hR

theorem alive_ev : Ev (fun k => laws_alive.f k) true := by
  unfold laws_alive.f
  refine ev_bind (impl_tv (⟨#[97]⟩ : ByteArray) (by decide)) ?_
  have : tv (bytesOf (⟨#[97]⟩ : ByteArray)) = true := by decide
  rw [this]
  exact Ev.now _

theorem rdOf_pos (ys : List ByteArray) (b : Nat) (h : ∀ y ∈ ys, y.size ≤ b) (i : Int) : (rdOf ByteArray.empty ys i).size ≤ b := rdOf_small ys b h i
theorem drawUq (l : List Int) (hw : ∀ x ∈ l, (Lit.int .u8 x).wf = true) : EvP (fun k => spec_DrawUnquoteText.f k l) (fun r => r.size ≤ 1000) := by
  obtain ⟨L, hL, hop⟩ := open_ev l hw
  unfold spec_DrawUnquoteText.f
  rw [hop]
  simp only [Option.bind_some]
  obtain ⟨s, q, hs, ht, hq, hq', hp⟩ := plain0_ev L hL 0 (by omega) (by omega)
  refine EvP.bind (P := fun r => r = (s, q)) (EvP.of_ev hp rfl) ?_
  rintro _ rfl
  simp only
  refine EvP.bind (P := fun r => r = strOfNums (qt (bytesOf s))) (EvP.of_ev (spec_qt s (by omega)) rfl) ?_
  rintro t rfl
  have hz : (strOfNums (qt (bytesOf s))).size ≤ 40 ∧ 1 ≤ (strOfNums (qt (bytesOf s))).size := by
    rw [strOfNums_size]
    unfold qt
    rw [if_pos ht]
    have := qbody_len (bytesOf s)
    rw [bytesOf_length] at this
    simp only [List.length_cons]; omega
  generalize strOfNums (qt (bytesOf s)) = t at hz ⊢
  refine EvP.bind (odd_p L hL q 3 (by omega) (by omega) (by omega) (by omega)) ?_
  rintro ⟨b, p2⟩ ⟨h1, h2⟩
  simp only at h1 h2 ⊢
  cases b with
  | false =>
    simp only [Bool.false_eq_true, if_false]
    exact EvP.now (by omega)
  | true =>
    simp only [if_true]
    by_cases h0 : t.size = 0
    · exact absurd h0 (by omega)
    · simp only [if_pos (show t.size + 1 ≤ 9223372036854775807 by omega), if_pos (show (1 : Int) ≤ (t.size : Int) by omega), Option.bind_some]
      refine EvP.bind (pick_p L hL p2 10 (by omega) (by omega) (by omega)) ?_
      rintro ⟨v, p3⟩ ⟨g1, g2, g3⟩
      simp only at g1 g2 g3
      simp only [List.length_cons, List.length_nil, if_pos g1, if_pos (show v < ((0 + 1 + 1 + 1 + 1 + 1 + 1 + 1 + 1 + 1 + 1 : Nat) : Int) by omega)]
      refine EvP.now (rdOf_small _ 1000 ?_ v)
      intro y hy
      simp only [List.mem_cons, List.not_mem_nil, or_false] at hy
      rcases hy with rfl | rfl | rfl | rfl | rfl | rfl | rfl | rfl | rfl | rfl
      · decide
      · decide
      · decide
      · decide
      · decide
      · decide
      · rw [ByteArray.size_append]; show _ + 1 ≤ _; omega
      · rw [ByteArray.size_extract]; omega
      · decide
      · decide
theorem FnUnquoteText : laws_FnUnquoteText.Pure := by
  intro l _ _ hw
  apply Ev.rounds
  unfold laws_FnUnquoteText.f
  by_cases h : (l.length : Int) > 1048576
  · simp only [if_pos h]; exact Ev.now _
  · simp only [if_neg h]
    obtain ⟨s, hs, hd⟩ := drawUq l hw
    refine ev_bind hd (ev_bind (impl_uq s (by omega)) (ev_bind (spec_uq s (by omega)) ?_))
    simp only [if_true, bne_self_eq_false]
    refine Ev.step (fun k => by rw [laws_FnUnquoteText.j0]) ?_
    simp only [Bool.false_eq_true, if_false]
    have hqr := uq_range _ _ (Nat.le_refl _) (fun y hy => bytesOf_range s y (List.mem_of_mem_drop (i := 1) hy))
    have hle := uq_len _ ((bytesOf s).drop 1) (Nat.le_refl _)
    rw [List.length_drop, bytesOf_length] at hle
    unfold uqt
    by_cases hc : 2 ≤ (bytesOf s).length ∧ tv (uq ((bytesOf s).drop 1)) = true ∧ 34 :: qbody (uq ((bytesOf s).drop 1)) = bytesOf s
    · simp only [if_pos hc, if_true]
      refine ev_bind (impl_qt _ (by rw [strOfNums_size]; omega)) ?_
      rw [bytesOf_str _ hqr]
      have e : qt (uq ((bytesOf s).drop 1)) = bytesOf s := by
        unfold qt; rw [if_pos hc.2.1]; exact hc.2.2
      rw [e, str_bytes]
      simp only [if_true]
      refine ev_bind (impl_tv _ (by rw [strOfNums_size]; omega)) ?_
      rw [bytesOf_str _ hqr, hc.2.1]
      exact Ev.now _
    · simp only [if_neg hc, Bool.false_eq_true, if_false]
      have e0 : (strOfNums []).toList = ([] : List UInt8) := by rw [toList_data]; rfl
      simp only [e0, if_true]
      exact ev_bind alive_ev (Ev.now _)

end Go.Proofs.Ytahjhpkaicpioaa.Pure
namespace Go.Proofs.Ytahjhpkaicpioaa.PrintWords
/-- The word that the printed row names: a slice of whole numbers is no longer than its weight allows. -/
theorem sized_ints {H : Type} {enc : TypeId × Value → H} {P : Program} {W : World} {base : Nat} {spare : Nat → Bool} {held : Bool} {t e : TypeId} {k : IntKind} {a : Option Addr} {len cap : Nat} {d : DataW H} {ps : List MemPlace} {ts : List TypeId} {ds : List (DataW H)} {j : Nat}
    (hsz : (DataW.weightsEach P ts ds).all (· ≤ reachBytes) = true) (ht : ts[j]? = some t) (hd : ds[j]? = some d) (hu : P.underlying t = some (.slice e)) (he : P.underlying e = some (.int k)) (hc : P.cellsOf e = 1) {B : Nat} (hB : P.bytesOf e = B)
    (h : DataW.Trod enc P W base spare held t (.slice a len cap) d ps) : len * B ≤ 140737488351232 :=
  Go.Proofs.YtahjhpkaicpioaaW.PrintWords.sized_ints hsz ht hd hu he hc hB h
end Go.Proofs.Ytahjhpkaicpioaa.PrintWords
