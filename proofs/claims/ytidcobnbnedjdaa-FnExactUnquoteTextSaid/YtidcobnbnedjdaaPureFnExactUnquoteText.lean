/- The pure statement of the law FnExactUnquoteText holds: for every input that meets the bounds in the statement, the printed function of the law, given enough rounds, answers true. -/
import Derived.Test.YtidcobnbnedjdaaPFnExactUnquoteTextx2
namespace Go.Proofs.Ytidcobnbnedjdaa.Pure
open Go.RowKit Go.Proofs.Ytidcobnbnedjdaa.PFnExactUnquoteText Go.Proofs.YtidcobnbnedjdaaW.PrintWords Go.Proofs.YtidcobnbnedjdaaW.PrintLast Go.Proofs.YtidcobnbnedjdaaW.PrintMore
set_option linter.unusedVariables false
set_option linter.unusedSimpArgs false

theorem w64 {n : Int} (h0 : -9223372036854775808 ≤ n) (h1 : n < 9223372036854775808) : wrap64 n = n := by
  unfold wrap64; omega
theorem w64n {n : Nat} (h1 : n < 9223372036854775808) : wrap64 (n : Int) = (n : Int) := w64 (by omega) (by omega)
theorem w64s {n : Nat} (h1 : n + 1 < 9223372036854775808) : wrap64 ((n : Int) + 1) = ((n + 1 : Nat) : Int) := by
  rw [w64 (by omega) (by omega)]; rfl
theorem ev_const {α : Type} {g : Nat → Option α} {r : α} (h : ∀ k, g k = some r) : Ev g r := ⟨0, fun k _ => h k⟩
theorem ev_bind {α β : Type} {g : Nat → Option α} {f : Nat → α → Option β} {a : α} {r : β} (h : Ev g a) (k : Ev (fun n => f n a) r) :
    Ev (fun n => (g n).bind (fun x => f n x)) r := Ev.bind h k
theorem bt_nat (s : ByteArray) (i : Nat) : bt s (i : Int) = (bytesOf s).getD i 0 := by
  rw [← rd_bytesOf]; simp [rd]
theorem drop_cons (l : List Int) (i : Nat) (h : i < l.length) : l.drop i = l.getD i 0 :: l.drop (i + 1) := by
  rw [List.drop_eq_getElem_cons h]; simp [List.getD_eq_getElem?_getD, h]
theorem bytesOf_range (s : ByteArray) : ∀ x ∈ bytesOf s, 0 ≤ x ∧ x ≤ 255 := by
  intro x hx
  unfold bytesOf at hx
  obtain ⟨b, _, rfl⟩ := List.mem_map.1 hx
  have := b.toNat_lt
  omega
theorem getD_range (s : ByteArray) (i : Nat) : 0 ≤ (bytesOf s).getD i 0 ∧ (bytesOf s).getD i 0 ≤ 255 := by
  rw [← bt_nat]; exact bt_range _ _
theorem map_byte_inj : ∀ (a b : List UInt8), a.map (fun b => (b.toNat : Int)) = b.map (fun b => (b.toNat : Int)) → a = b
  | [], [], _ => rfl
  | [], _ :: _, h => by simp at h
  | _ :: _, [], h => by simp at h
  | x :: a, y :: b, h => by
    simp only [List.map_cons, List.cons.injEq] at h
    have h1 : x = y := UInt8.toNat_inj.1 (by omega)
    rw [h1, map_byte_inj a b h.2]
theorem bytesOf_inj {a b : ByteArray} (h : bytesOf a = bytesOf b) : a = b := by
  have := map_byte_inj _ _ h
  apply ByteArray.ext
  exact Array.toList_inj.1 this
theorem bytesOf_app (a b : ByteArray) : bytesOf (a ++ b) = bytesOf a ++ bytesOf b := by
  unfold bytesOf
  rw [ByteArray.data_append]; simp
theorem bytesOf_cut (s : ByteArray) (i j : Nat) : bytesOf (s.extract i j) = ((bytesOf s).take j).drop i := by
  unfold bytesOf
  rw [ByteArray.data_extract]
  simp [List.drop_take]
theorem bytesOf_str (xs : List Int) (h : ∀ x ∈ xs, 0 ≤ x ∧ x ≤ 255) : bytesOf (strOfNums xs) = xs := by
  unfold bytesOf strOfNums
  simp only [List.map_map]
  conv => rhs; rw [← List.map_id xs]
  apply List.map_congr_left
  intro x hx
  have := h x hx
  have e : x.toNat % 256 = x.toNat := Nat.mod_eq_of_lt (by omega)
  simp only [Function.comp, UInt8.toNat_ofNat', id]
  omega
theorem str_bytes (s : ByteArray) : strOfNums (bytesOf s) = s :=
  bytesOf_inj (bytesOf_str _ (bytesOf_range s))
theorem toList_data (a : ByteArray) : a.toList = a.data.toList := ByteArray.toList_eq a
theorem toList_iff {a b : ByteArray} : a.toList = b.toList ↔ bytesOf a = bytesOf b := by
  constructor
  · intro h
    unfold bytesOf
    rw [← toList_data, ← toList_data, h]
  · intro h
    rw [bytesOf_inj h]
theorem size_bytes (s : ByteArray) : s.size = (bytesOf s).length := (bytesOf_length s).symm

/-! texts: which bytes are plain -/
def okb (x : Int) : Bool := x == 10 || (decide (32 ≤ x) && decide (x ≤ 126))
def tv (l : List Int) : Bool := l.all okb && decide (l.length ≤ 20000)
theorem okb_ten : okb 10 = true := rfl
theorem okb_in (x : Int) (h : ¬ x = 10) : okb x = (decide (32 ≤ x) && decide (x ≤ 126)) := by
  unfold okb; rw [beq_eq_false_iff_ne.mpr h]; rfl

/-! quoting -/
def esc (x : Int) : List Int := if x = 10 then [92, 110] else if x = 34 then [92, 34] else if x = 92 then [92, 92] else [x]
def qbody (l : List Int) : List Int := l.flatMap esc ++ [34]
def qt (l : List Int) : List Int := if tv l = true then 34 :: qbody l else []
theorem qbody_cons (x : Int) (l : List Int) : qbody (x :: l) = esc x ++ qbody l := by simp [qbody]
theorem esc_len (x : Int) : (esc x).length ≤ 2 := by
  unfold esc; repeat' split
  all_goals simp
theorem esc_range (x : Int) (h : 0 ≤ x ∧ x ≤ 255) : ∀ y ∈ esc x, 0 ≤ y ∧ y ≤ 255 := by
  unfold esc
  intro y hy
  split at hy
  · simp at hy; omega
  · split at hy
    · simp at hy; omega
    · split at hy
      · simp at hy; omega
      · simp at hy; omega
theorem qbody_range (l : List Int) (h : ∀ y ∈ l, 0 ≤ y ∧ y ≤ 255) : ∀ y ∈ qbody l, 0 ≤ y ∧ y ≤ 255 := by
  intro y hy
  unfold qbody at hy
  rcases List.mem_append.1 hy with hy | hy
  · obtain ⟨x, hx, hy⟩ := List.mem_flatMap.1 hy
    exact esc_range x (h x hx) y hy
  · simp at hy; omega
theorem qt_range (l : List Int) (h : ∀ y ∈ l, 0 ≤ y ∧ y ≤ 255) : ∀ y ∈ qt l, 0 ≤ y ∧ y ≤ 255 := by
  unfold qt
  intro y hy
  split at hy
  · rcases List.mem_cons.1 hy with hy | hy
    · omega
    · exact qbody_range l h y hy
  · simp at hy
theorem lit_bytes2 (a b : UInt8) : bytesOf (⟨#[a, b]⟩ : ByteArray) = [(a.toNat : Int), (b.toNat : Int)] := rfl
theorem lit_bytes1 (a : UInt8) : bytesOf (⟨#[a]⟩ : ByteArray) = [(a.toNat : Int)] := rfl
theorem cut_one (s : ByteArray) (i : Nat) (h : i < s.size) : bytesOf (s.extract i (i + 1)) = [(bytesOf s).getD i 0] := by
  rw [bytesOf_cut]
  have hl : i < (bytesOf s).length := by rw [bytesOf_length]; exact h
  rw [List.take_succ_eq_append_getElem hl, List.drop_append_of_le_length (by simp; omega)]
  rw [List.drop_of_length_le (by rw [List.length_take]; omega)]
  simp [List.getD_eq_getElem?_getD, hl]
theorem tv_len {l : List Int} (h : tv l = true) : l.length ≤ 20000 := by
  unfold tv at h; simp at h; exact h.2

/-! unquoting -/
def unb (x : Int) : Int := if x = 110 then 10 else x
/-- what the loop makes of the bytes from the first one behind the quotation mark on, the last byte among them. -/
def uq : List Int → List Int
  | [] => []
  | [_] => []
  | x :: y :: l => if x = 92 then unb y :: uq l else x :: uq (y :: l)
def uqt (l : List Int) : List Int × Bool :=
  if 2 ≤ l.length ∧ tv (uq (l.drop 1)) = true ∧ 34 :: qbody (uq (l.drop 1)) = l then (uq (l.drop 1), true) else ([], false)
theorem uq_range : ∀ (n : Nat) (l : List Int), l.length ≤ n → (∀ y ∈ l, 0 ≤ y ∧ y ≤ 255) → ∀ y ∈ uq l, 0 ≤ y ∧ y ≤ 255 := by
  intro n
  induction n with
  | zero =>
    intro l hn hl y hy
    have : l = [] := List.length_eq_zero_iff.1 (by omega)
    subst this; simp [uq] at hy
  | succ n ih =>
    intro l hn hl y hy
    match l, hn, hl, hy with
    | [], _, _, hy => simp [uq] at hy
    | [_], _, _, hy => simp [uq] at hy
    | x :: z :: l, hn, hl, hy =>
      rw [uq] at hy
      split at hy
      · rcases List.mem_cons.1 hy with hy | hy
        · have hz := hl z (by simp)
          unfold unb at hy
          split at hy
          · omega
          · omega
        · exact ih l (by simp at hn; omega) (fun w hw => hl w (by simp [hw])) y hy
      · rcases List.mem_cons.1 hy with hy | hy
        · have hz := hl x (by simp)
          omega
        · exact ih (z :: l) (by simp at hn ⊢; omega) (fun w hw => hl w (List.mem_cons_of_mem _ hw)) y hy
theorem uq_len : ∀ (n : Nat) (l : List Int), l.length ≤ n → (uq l).length ≤ l.length := by
  intro n
  induction n with
  | zero =>
    intro l hn
    have : l = [] := List.length_eq_zero_iff.1 (by omega)
    subst this; simp [uq]
  | succ n ih =>
    intro l hn
    match l, hn with
    | [], _ => simp [uq]
    | [_], _ => simp [uq]
    | x :: z :: l, hn =>
      rw [uq]
      split
      · have := ih l (by simp at hn; omega); simp; omega
      · have := ih (z :: l) (by simp at hn ⊢; omega); simp at this ⊢; omega
theorem qt_eq_iff (r L : List Int) (h : 2 ≤ L.length) : qt r = L ↔ (tv r = true ∧ 34 :: qbody r = L) := by
  unfold qt
  by_cases ht : tv r = true
  · simp [ht]
  · simp [ht]
    intro e; subst e; simp at h
theorem qbody_last (r : List Int) : (qbody r).getLast? = some 34 := by simp [qbody]
theorem empty_str : strOfNums [] = (⟨#[]⟩ : ByteArray) := rfl
theorem qbody_len (r : List Int) : (qbody r).length ≤ 2 * r.length + 1 := by
  induction r with
  | nil => simp [qbody]
  | cons x l ih => rw [qbody_cons, List.length_append]; have := esc_len x; simp; omega

theorem l1In_eq (x : Int) : spec_l1In.f x 32 126 = some (decide (32 ≤ x) && decide (x ≤ 126)) := by
  unfold spec_l1In.f
  by_cases h : x ≥ 32
  · rw [if_pos h, decide_eq_true h]; rfl
  · rw [if_neg h, decide_eq_false h]; rfl
theorem spec_tv_l (s : ByteArray) (hs : s.size ≤ 140737488351232) : ∀ (l : List Int) (i : Nat), (bytesOf s).drop i = l → i ≤ s.size →
    Ev (fun k => spec_TextValid.l0 k s (i : Int)) (l.all okb && decide ((bytesOf s).length ≤ 20000)) := by
  intro l
  induction l with
  | nil =>
    intro i hl hi
    have hn : s.size = i := by
      have := List.drop_eq_nil_iff.1 hl
      rw [bytesOf_length] at this; omega
    refine Ev.step (fun k => by rw [spec_TextValid.l0]) (ev_const fun k => ?_)
    rw [if_neg (by omega), bytesOf_length]; simp; omega
  | cons x l ih =>
    intro i hl hi
    have hlt : i < s.size := by
      rcases Nat.lt_or_ge i s.size with h | h
      · exact h
      · rw [List.drop_eq_nil_iff.2 (by rw [bytesOf_length]; exact h)] at hl; cases hl
    have hd := drop_cons (bytesOf s) i (by rw [bytesOf_length]; exact hlt)
    rw [hd] at hl
    obtain ⟨hx, hl'⟩ := List.cons.inj hl
    have hr := getD_range s i
    have hb := bt_nat s i
    rw [hx] at hb hr
    have h1 := ih (i + 1) hl' (by omega)
    refine Ev.step (fun k => by rw [spec_TextValid.l0]) ?_
    simp only [hb, w64s (show i + 1 < 9223372036854775808 by omega), w64 (n := x) (by omega) (by omega), l1In_eq, Option.bind_some, show (i : Int) < (s.size : Int) by omega, show (0 : Int) ≤ (i : Int) by omega, if_true]
    by_cases h10 : x = 10
    · subst h10
      simp only [if_true, List.all_cons, okb_ten, Bool.true_and]; exact h1
    · simp only [h10, if_false, List.all_cons, okb_in x h10]
      cases hq : (decide (32 ≤ x) && decide (x ≤ 126))
      · simp; exact Ev.now _
      · simp; simpa using h1
theorem spec_tv (s : ByteArray) (hs : s.size ≤ 140737488351232) : Ev (fun k => spec_TextValid.f k s) (tv (bytesOf s)) := by
  have := spec_tv_l s hs (bytesOf s) 0 rfl (by omega)
  exact this

theorem spec_qt_l (s : ByteArray) (hs : s.size ≤ 140737488351232) : ∀ (l : List Int) (i : Nat) (o R : ByteArray), (bytesOf s).drop i = l → i ≤ s.size →
    o.size ≤ 2 * i + 1 → bytesOf R = bytesOf o ++ qbody l → Ev (fun k => spec_QuoteText.l0 k s o (i : Int)) R := by
  intro l
  induction l with
  | nil =>
    intro i o R hl hi ho hR
    have hn : s.size = i := by
      have := List.drop_eq_nil_iff.1 hl
      rw [bytesOf_length] at this; omega
    refine Ev.step (fun k => by rw [spec_QuoteText.l0]) (ev_const fun k => ?_)
    rw [if_neg (by omega), if_pos (by omega)]
    congr 1
    apply bytesOf_inj
    rw [hR, bytesOf_app]; rfl
  | cons x l ih =>
    intro i o R hl hi ho hR
    have hlt : i < s.size := by
      rcases Nat.lt_or_ge i s.size with h | h
      · exact h
      · rw [List.drop_eq_nil_iff.2 (by rw [bytesOf_length]; exact h)] at hl; cases hl
    have hd := drop_cons (bytesOf s) i (by rw [bytesOf_length]; exact hlt)
    rw [hd] at hl
    obtain ⟨hx, hl'⟩ := List.cons.inj hl
    have hb := bt_nat s i
    rw [hx] at hb
    have hc := cut_one s i hlt
    rw [hx] at hc
    have hcs : (s.extract i (i + 1)).size = 1 := by rw [size_bytes, hc]; rfl
    rw [qbody_cons] at hR
    have h92 : ((⟨#[92]⟩ : ByteArray)).size = 1 := rfl
    have hsz : (o ++ (⟨#[92]⟩ : ByteArray)).size = o.size + 1 := by rw [ByteArray.size_append]; rfl
    refine Ev.step (fun k => by rw [spec_QuoteText.l0]) ?_
    simp only [hb, w64s (show i + 1 < 9223372036854775808 by omega), show (i : Int) < (s.size : Int) by omega, show (0 : Int) ≤ (i : Int) by omega, if_true,
      show ((i : Int)) ≤ ((i + 1 : Nat) : Int) by omega, show ((i + 1 : Nat) : Int) ≤ (s.size : Int) by omega, Int.toNat_natCast, hcs, hsz,
      show o.size + 2 ≤ 9223372036854775807 by omega, show o.size + 1 ≤ 9223372036854775807 by omega]
    by_cases h10 : x = 10
    · simp only [h10, if_true]
      refine ih (i + 1) _ R hl' (by omega) ?_ ?_
      · rw [ByteArray.size_append]; show _ + 2 ≤ _; omega
      · rw [hR, bytesOf_app, h10]; simp [esc, lit_bytes2]
    · by_cases h34 : x = 34
      · simp only [h34, if_true, if_neg (show ¬ (34 : Int) = 10 by decide)]
        refine ih (i + 1) _ R hl' (by omega) ?_ ?_
        · rw [ByteArray.size_append, hsz, hcs]; omega
        · rw [hR, bytesOf_app, bytesOf_app, hc, h34]; simp [esc, lit_bytes1]
      · by_cases h92 : x = 92
        · simp only [h92, if_true, if_neg (show ¬ (92 : Int) = 10 by decide), if_neg (show ¬ (92 : Int) = 34 by decide)]
          refine ih (i + 1) _ R hl' (by omega) ?_ ?_
          · rw [ByteArray.size_append, hsz, hcs]; omega
          · rw [hR, bytesOf_app, bytesOf_app, hc, h92]; simp [esc, lit_bytes1]
        · simp only [h10, h34, h92, if_false]
          refine ih (i + 1) _ R hl' (by omega) ?_ ?_
          · rw [ByteArray.size_append, hcs]; omega
          · rw [hR, bytesOf_app, hc]; simp [esc, h10, h34, h92]
theorem spec_qt (s : ByteArray) (hs : s.size ≤ 140737488351232) : Ev (fun k => spec_QuoteText.f k s) (strOfNums (qt (bytesOf s))) := by
  unfold spec_QuoteText.f
  refine ev_bind (spec_tv s hs) ?_
  by_cases h : tv (bytesOf s) = true
  · simp only [h, if_true]
    refine spec_qt_l s hs (bytesOf s) 0 _ _ rfl (by omega) (by show 1 ≤ _; omega) ?_
    rw [bytesOf_str _ (qt_range _ (bytesOf_range s))]
    unfold qt; rw [if_pos h]; rfl
  · simp only [h]
    refine ev_const fun k => ?_
    unfold qt; rw [if_neg h]; rfl

theorem spec_uq_l (s : ByteArray) (hs : s.size ≤ 140737488351232) (h1s : 1 ≤ s.size) (res : ByteArray × Bool) : ∀ (n : Nat) (M : List Int) (i : Nat) (o R : ByteArray), M.length ≤ n → (bytesOf s).drop i = M → i ≤ s.size →
    o.size ≤ i → bytesOf R = bytesOf o ++ uq M →
    Ev (fun k => (spec_QuoteText.f k R).bind fun t => if t.toList = s.toList then some (R, true) else some ((⟨#[]⟩ : ByteArray), false)) res →
    Ev (fun k => spec_UnquoteText.l0 k s o (i : Int)) res := by
  intro n
  induction n with
  | zero =>
    intro M i o R hn hl hi ho hR hE
    have hM : M = [] := List.length_eq_zero_iff.1 (by omega)
    subst hM
    have hz : s.size = i := by
      have := List.drop_eq_nil_iff.1 hl
      rw [bytesOf_length] at this; omega
    refine Ev.step (fun k => by rw [spec_UnquoteText.l0]) ?_
    simp only [w64 (n := (s.size : Int) - 1) (by omega) (by omega), if_neg (show ¬ (i : Int) < (s.size : Int) - 1 by omega)]
    have : o = R := bytesOf_inj (by rw [hR]; simp [uq])
    subst this
    exact hE
  | succ n ih =>
    intro M i o R hn hl hi ho hR hE
    have hML : M.length = s.size - i := by rw [← hl, List.length_drop, bytesOf_length]
    refine Ev.step (fun k => by rw [spec_UnquoteText.l0]) ?_
    match M, hn, hl, hR, hML with
    | [], hn, hl, hR, hML =>
      simp only [List.length_nil] at hML
      simp only [w64 (n := (s.size : Int) - 1) (by omega) (by omega), if_neg (show ¬ (i : Int) < (s.size : Int) - 1 by omega)]
      have : o = R := bytesOf_inj (by rw [hR]; simp [uq])
      subst this
      exact hE
    | [x], hn, hl, hR, hML =>
      simp only [List.length_cons, List.length_nil] at hML
      simp only [w64 (n := (s.size : Int) - 1) (by omega) (by omega), if_neg (show ¬ (i : Int) < (s.size : Int) - 1 by omega)]
      have : o = R := bytesOf_inj (by rw [hR]; simp [uq])
      subst this
      exact hE
    | x :: y :: l, hn, hl, hR, hML =>
      simp only [List.length_cons] at hML hn
      have hd := drop_cons (bytesOf s) i (by rw [bytesOf_length]; omega)
      have hd2 := drop_cons (bytesOf s) (i + 1) (by rw [bytesOf_length]; omega)
      rw [hd] at hl
      obtain ⟨hx, hl'⟩ := List.cons.inj hl
      rw [hd2] at hl'
      obtain ⟨hy, hl''⟩ := List.cons.inj hl'
      have hb := bt_nat s i
      have hb2 := bt_nat s (i + 1)
      rw [hx] at hb
      rw [hy] at hb2
      have hc := cut_one s i (by omega)
      have hc2 := cut_one s (i + 1) (by omega)
      rw [hx] at hc
      rw [hy] at hc2
      have hcs : (s.extract i (i + 1)).size = 1 := by rw [size_bytes, hc]; rfl
      have hcs2 : (s.extract (i + 1) (i + 1 + 1)).size = 1 := by rw [size_bytes, hc2]; rfl
      rw [uq] at hR
      simp only [w64 (n := (s.size : Int) - 1) (by omega) (by omega), if_pos (show (i : Int) < (s.size : Int) - 1 by omega), hb, w64s (show i + 1 < 9223372036854775808 by omega), w64s (show i + 1 + 1 < 9223372036854775808 by omega),
        show (0 : Int) ≤ (i : Int) by omega, show (0 : Int) ≤ ((i + 1 : Nat) : Int) by omega, show (i : Int) < (s.size : Int) by omega, show ((i + 1 : Nat) : Int) < (s.size : Int) by omega, if_true, hb2,
        show (i : Int) ≤ ((i + 1 : Nat) : Int) by omega, show ((i + 1 : Nat) : Int) ≤ ((i + 1 + 1 : Nat) : Int) by omega,
        show ((i + 1 : Nat) : Int) ≤ (s.size : Int) by omega, show ((i + 1 + 1 : Nat) : Int) ≤ (s.size : Int) by omega, Int.toNat_natCast, hcs, hcs2, show o.size + 1 ≤ 9223372036854775807 by omega]
      by_cases h92 : x = 92
      · simp only [if_pos h92]
        rw [if_pos h92] at hR
        by_cases h110 : y = 110
        · simp only [if_pos h110]
          refine ih l (i + 1 + 1) _ R (by omega) hl'' (by omega) ?_ ?_ hE
          · rw [ByteArray.size_append]; show _ + 1 ≤ _; omega
          · rw [hR, bytesOf_app, h110]; simp [unb, lit_bytes1]
        · simp only [if_neg h110]
          refine ih l (i + 1 + 1) _ R (by omega) hl'' (by omega) ?_ ?_ hE
          · rw [ByteArray.size_append, hcs2]; omega
          · rw [hR, bytesOf_app, hc2]; simp [unb, h110]
      · simp only [if_neg h92]
        rw [if_neg h92] at hR
        refine ih (y :: l) (i + 1) _ R (by simp; omega) (by rw [hd2, hy, hl'']) (by omega) ?_ ?_ hE
        · rw [ByteArray.size_append, hcs]; omega
        · rw [hR, bytesOf_app, hc]; simp
theorem spec_uq (s : ByteArray) (hs : s.size ≤ 140737488351232) : Ev (fun k => spec_UnquoteText.f k s) (strOfNums (uqt (bytesOf s)).1, (uqt (bytesOf s)).2) := by
  have hL := bytesOf_length s
  have hno : ¬ (2 ≤ (bytesOf s).length ∧ tv (uq ((bytesOf s).drop 1)) = true ∧ 34 :: qbody (uq ((bytesOf s).drop 1)) = bytesOf s) →
      Ev (fun k => spec_UnquoteText.j0 k s true) (strOfNums (uqt (bytesOf s)).1, (uqt (bytesOf s)).2) := by
    intro hn
    refine Ev.step (fun k => by rw [spec_UnquoteText.j0]) ?_
    unfold uqt
    rw [if_neg hn]
    exact Ev.now _
  unfold spec_UnquoteText.f
  by_cases h2 : s.size < 2
  · simp only [if_pos (show (s.size : Int) < 2 by omega)]
    exact hno (fun h => by omega)
  · simp only [if_neg (show ¬ (s.size : Int) < 2 by omega), if_pos (show (0 : Int) < (s.size : Int) by omega)]
    have hb0 := bt_nat s 0
    have hbl := bt_nat s (s.size - 1)
    rw [show ((s.size - 1 : Nat) : Int) = (s.size : Int) - 1 by omega] at hbl
    have hlast : (bytesOf s).getLast? = some ((bytesOf s).getD (s.size - 1) 0) := by
      rw [List.getLast?_eq_getElem?, hL, List.getD_eq_getElem?_getD]
      rw [List.getElem?_eq_getElem (by omega)]; rfl
    simp only [w64 (n := (s.size : Int) - 1) (by omega) (by omega), if_pos (show (0 : Int) ≤ (s.size : Int) - 1 by omega), if_pos (show (s.size : Int) - 1 < (s.size : Int) by omega)]
    by_cases h34 : bt s 0 = 34
    · simp only [if_pos h34]
      refine Ev.step (fun k => by rw [spec_UnquoteText.j0]) ?_
      by_cases hl34 : bt s ((s.size : Int) - 1) = 34
      · simp only [hl34, bne_self_eq_false, Bool.false_eq_true, if_false]
        refine spec_uq_l s hs (by omega) _ _ ((bytesOf s).drop 1) 1 _ (strOfNums (uq ((bytesOf s).drop 1))) (Nat.le_refl _) rfl (by omega) (by show 0 ≤ _; omega) ?_ ?_
        · rw [bytesOf_str _ (uq_range _ _ (Nat.le_refl _) (fun y hy => bytesOf_range s y (List.mem_of_mem_drop hy)))]; rfl
        · have hqr := uq_range _ _ (Nat.le_refl _) (fun y hy => bytesOf_range s y (List.mem_of_mem_drop (i := 1) hy))
          refine ev_bind (spec_qt _ ?_) (ev_const fun k => ?_)
          · rw [strOfNums_size]
            have := uq_len _ ((bytesOf s).drop 1) (Nat.le_refl _)
            rw [List.length_drop] at this; omega
          · have hq := qt_eq_iff (uq ((bytesOf s).drop 1)) (bytesOf s) (by omega)
            rw [bytesOf_str _ hqr]
            unfold uqt
            by_cases hc : qt (uq ((bytesOf s).drop 1)) = bytesOf s
            · rw [if_pos (by rw [toList_iff, bytesOf_str _ (qt_range _ hqr)]; exact hc), if_pos ⟨by omega, hq.1 hc⟩]
            · rw [if_neg (by rw [toList_iff, bytesOf_str _ (qt_range _ hqr)]; exact hc), if_neg (fun h => hc (hq.2 h.2))]; rfl
      · have : (bt s ((s.size : Int) - 1) != 34) = true := by simpa using hl34
        simp only [this, if_true]
        refine Ev.congr (fun k => rfl) ?_
        unfold uqt
        rw [if_neg]
        · exact Ev.now _
        · rintro ⟨_, _, h⟩
          rw [← h] at hlast
          rw [List.getLast?_cons, qbody_last] at hlast
          rw [h] at hlast
          simp at hlast
          rw [hbl] at hl34
          exact hl34 (by simpa [List.getD_eq_getElem?_getD] using hlast.symm)
    · simp only [if_neg h34]
      refine hno ?_
      rintro ⟨_, _, h⟩
      have h0 := congrArg (fun l => l.getD 0 0) h
      have e0 : bt s 0 = (bytesOf s).getD 0 0 := hb0
      rw [e0] at h34
      exact h34 h0.symm

theorem in_eq (x : Int) : impl_in.f x 32 126 = some (decide (32 ≤ x) && decide (x ≤ 126)) := by
  unfold impl_in.f
  by_cases h : x ≥ 32
  · rw [if_pos h, decide_eq_true h]; rfl
  · rw [if_neg h, decide_eq_false h]; rfl
theorem impl_tv_l (s : ByteArray) (hs : s.size ≤ 140737488351232) : ∀ (l : List Int) (i : Nat), (bytesOf s).drop i = l → i ≤ s.size →
    Ev (fun k => impl_TextValid.l0 k s (i : Int)) (l.all okb && decide ((bytesOf s).length ≤ 20000)) := by
  intro l
  induction l with
  | nil =>
    intro i hl hi
    have hn : s.size = i := by
      have := List.drop_eq_nil_iff.1 hl
      rw [bytesOf_length] at this; omega
    refine Ev.step (fun k => by rw [impl_TextValid.l0]) (ev_const fun k => ?_)
    rw [if_neg (by omega), bytesOf_length]; simp; omega
  | cons x l ih =>
    intro i hl hi
    have hlt : i < s.size := by
      rcases Nat.lt_or_ge i s.size with h | h
      · exact h
      · rw [List.drop_eq_nil_iff.2 (by rw [bytesOf_length]; exact h)] at hl; cases hl
    have hd := drop_cons (bytesOf s) i (by rw [bytesOf_length]; exact hlt)
    rw [hd] at hl
    obtain ⟨hx, hl'⟩ := List.cons.inj hl
    have hr := getD_range s i
    have hb := bt_nat s i
    rw [hx] at hb hr
    have h1 := ih (i + 1) hl' (by omega)
    refine Ev.step (fun k => by rw [impl_TextValid.l0]) ?_
    simp only [hb, w64s (show i + 1 < 9223372036854775808 by omega), w64 (n := x) (by omega) (by omega), in_eq, Option.bind_some, show (i : Int) < (s.size : Int) by omega, show (0 : Int) ≤ (i : Int) by omega, if_true]
    by_cases h10 : x = 10
    · subst h10
      simp only [if_true, List.all_cons, okb_ten, Bool.true_and]; exact h1
    · simp only [h10, if_false, List.all_cons, okb_in x h10]
      cases hq : (decide (32 ≤ x) && decide (x ≤ 126))
      · simp; exact Ev.now _
      · simp; simpa using h1
theorem impl_tv (s : ByteArray) (hs : s.size ≤ 140737488351232) : Ev (fun k => impl_TextValid.f k s) (tv (bytesOf s)) := by
  have := impl_tv_l s hs (bytesOf s) 0 rfl (by omega)
  exact this

theorem impl_qd_l (s : ByteArray) (hs : s.size ≤ 1048576) : ∀ (l : List Int) (i : Nat) (o : List Int) (R : ByteArray), (bytesOf s).drop i = l → i ≤ s.size →
    o.length ≤ 2 * i + 1 → (∀ y ∈ o, 0 ≤ y ∧ y ≤ 255) → bytesOf R = o ++ qbody l → Ev (fun k => impl_quoted.l0 k s o (i : Int)) R := by
  intro l
  induction l with
  | nil =>
    intro i o R hl hi ho hor hR
    have hn : s.size = i := by
      have := List.drop_eq_nil_iff.1 hl
      rw [bytesOf_length] at this; omega
    refine Ev.step (fun k => by rw [impl_quoted.l0]) (ev_const fun k => ?_)
    rw [if_neg (by omega), if_pos (by omega)]
    congr 1
    apply bytesOf_inj
    rw [hR, bytesOf_str]
    · rfl
    · intro y hy
      rcases List.mem_append.1 hy with hy | hy
      · exact hor y hy
      · simp at hy; omega
  | cons x l ih =>
    intro i o R hl hi ho hor hR
    have hlt : i < s.size := by
      rcases Nat.lt_or_ge i s.size with h | h
      · exact h
      · rw [List.drop_eq_nil_iff.2 (by rw [bytesOf_length]; exact h)] at hl; cases hl
    have hd := drop_cons (bytesOf s) i (by rw [bytesOf_length]; exact hlt)
    rw [hd] at hl
    obtain ⟨hx, hl'⟩ := List.cons.inj hl
    have hb := bt_nat s i
    have hr := getD_range s i
    rw [hx] at hb hr
    rw [qbody_cons] at hR
    have h1 : Ev (fun k => impl_quoted.l0 k s (o ++ esc x) ((i + 1 : Nat) : Int)) R := by
      refine ih (i + 1) _ R hl' (by omega) ?_ ?_ ?_
      · rw [List.length_append]; have := esc_len x; omega
      · intro y hy
        rcases List.mem_append.1 hy with hy | hy
        · exact hor y hy
        · exact esc_range x hr y hy
      · rw [hR]; simp
    have hj : ∀ b : Bool, b = (x == 34 || x == 92) → Ev (fun k => impl_quoted.j1 k s o (i : Int) x b) R := by
      intro b hbb
      refine Ev.step (fun k => by rw [impl_quoted.j1]) ?_
      simp only [hb, w64s (show i + 1 < 9223372036854775808 by omega), show (i : Int) < (s.size : Int) by omega, show (0 : Int) ≤ (i : Int) by omega, if_true, Option.bind_some,
        List.length_cons, List.length_nil, show o.length + (0 + 1 + 1) < 140737488355328 by omega, show o.length < 140737488355328 by omega]
      by_cases h34 : x = 34
      · subst h34
        subst hbb
        simpa [esc] using h1
      · by_cases h92 : x = 92
        · subst h92
          subst hbb
          simpa [esc] using h1
        · have hbf : b = false := by rw [hbb]; simp [h34, h92]
          subst hbf
          by_cases h10 : x = 10
          · subst h10
            simpa [esc] using h1
          · simpa [esc, h34, h92, h10] using h1
    refine Ev.step (fun k => by rw [impl_quoted.l0]) ?_
    simp only [hb, show (i : Int) < (s.size : Int) by omega, show (0 : Int) ≤ (i : Int) by omega, if_true]
    by_cases h34 : x = 34
    · simp only [if_pos h34]
      exact hj _ (by simp [h34])
    · simp only [if_neg h34]
      exact hj _ (by simp [h34])
theorem impl_qd (s : ByteArray) (hs : s.size ≤ 1048576) : Ev (fun k => impl_quoted.f k s) (strOfNums (34 :: qbody (bytesOf s))) := by
  unfold impl_quoted.f
  refine impl_qd_l s hs (bytesOf s) 0 _ _ rfl (by omega) (by simp) (by simp) ?_
  rw [bytesOf_str]
  · rfl
  · intro y hy
    rcases List.mem_cons.1 hy with hy | hy
    · omega
    · exact qbody_range _ (bytesOf_range s) y hy

theorem impl_uq_l (s : ByteArray) (hs : s.size ≤ 1048576) (h1s : 1 ≤ s.size) (res : ByteArray × Bool) : ∀ (n : Nat) (M : List Int) (i : Nat) (o R : List Int), M.length ≤ n → (bytesOf s).drop i = M → i ≤ s.size →
    o.length ≤ i → R = o ++ uq M →
    Ev (fun k => (impl_TextValid.f k (strOfNums R)).bind fun t => if t = true then ((impl_quoted.f k (strOfNums R)).bind fun t => if t.toList = s.toList then some (strOfNums R, true) else some ((⟨#[]⟩ : ByteArray), false)) else some ((⟨#[]⟩ : ByteArray), false)) res →
    Ev (fun k => impl_UnquoteText.l0 k s o (i : Int)) res := by
  intro n
  induction n with
  | zero =>
    intro M i o R hn hl hi ho hR hE
    have hM : M = [] := List.length_eq_zero_iff.1 (by omega)
    subst hM
    have hz : s.size = i := by
      have := List.drop_eq_nil_iff.1 hl
      rw [bytesOf_length] at this; omega
    refine Ev.step (fun k => by rw [impl_UnquoteText.l0]) ?_
    simp only [w64 (n := (s.size : Int) - 1) (by omega) (by omega), if_neg (show ¬ (i : Int) < (s.size : Int) - 1 by omega)]
    have : o = R := by rw [hR]; simp [uq]
    subst this
    exact hE
  | succ n ih =>
    intro M i o R hn hl hi ho hR hE
    have hML : M.length = s.size - i := by rw [← hl, List.length_drop, bytesOf_length]
    refine Ev.step (fun k => by rw [impl_UnquoteText.l0]) ?_
    match M, hn, hl, hR, hML with
    | [], hn, hl, hR, hML =>
      simp only [List.length_nil] at hML
      simp only [w64 (n := (s.size : Int) - 1) (by omega) (by omega), if_neg (show ¬ (i : Int) < (s.size : Int) - 1 by omega)]
      have : o = R := by rw [hR]; simp [uq]
      subst this
      exact hE
    | [x], hn, hl, hR, hML =>
      simp only [List.length_cons, List.length_nil] at hML
      simp only [w64 (n := (s.size : Int) - 1) (by omega) (by omega), if_neg (show ¬ (i : Int) < (s.size : Int) - 1 by omega)]
      have : o = R := by rw [hR]; simp [uq]
      subst this
      exact hE
    | x :: y :: l, hn, hl, hR, hML =>
      simp only [List.length_cons] at hML hn
      have hd := drop_cons (bytesOf s) i (by rw [bytesOf_length]; omega)
      have hd2 := drop_cons (bytesOf s) (i + 1) (by rw [bytesOf_length]; omega)
      rw [hd] at hl
      obtain ⟨hx, hl'⟩ := List.cons.inj hl
      rw [hd2] at hl'
      obtain ⟨hy, hl''⟩ := List.cons.inj hl'
      have hb := bt_nat s i
      have hb2 := bt_nat s (i + 1)
      rw [hx] at hb
      rw [hy] at hb2
      rw [uq] at hR
      simp only [w64 (n := (s.size : Int) - 1) (by omega) (by omega), if_pos (show (i : Int) < (s.size : Int) - 1 by omega), hb, w64s (show i + 1 < 9223372036854775808 by omega), w64s (show i + 1 + 1 < 9223372036854775808 by omega),
        show (0 : Int) ≤ (i : Int) by omega, show (0 : Int) ≤ ((i + 1 : Nat) : Int) by omega, show (i : Int) < (s.size : Int) by omega, show ((i + 1 : Nat) : Int) < (s.size : Int) by omega, if_true, hb2,
        show o.length < 140737488355328 by omega]
      by_cases h92 : x = 92
      · simp only [if_pos h92]
        rw [if_pos h92] at hR
        by_cases h110 : y = 110
        · simp only [if_pos h110]
          refine ih l (i + 1 + 1) _ R (by omega) hl'' (by omega) (by simp; omega) ?_ hE
          rw [hR, h110]; simp [unb]
        · simp only [if_neg h110]
          refine ih l (i + 1 + 1) _ R (by omega) hl'' (by omega) (by simp; omega) ?_ hE
          rw [hR]; simp [unb, h110]
      · simp only [if_neg h92]
        rw [if_neg h92] at hR
        refine ih (y :: l) (i + 1) _ R (by simp; omega) (by rw [hd2, hy, hl'']) (by omega) (by simp; omega) ?_ hE
        rw [hR]; simp
theorem impl_uq (s : ByteArray) (hs : s.size ≤ 140737488351232) : Ev (fun k => impl_UnquoteText.f k s) (strOfNums (uqt (bytesOf s)).1, (uqt (bytesOf s)).2) := by
  have hL := bytesOf_length s
  have hno : ¬ (2 ≤ (bytesOf s).length ∧ tv (uq ((bytesOf s).drop 1)) = true ∧ 34 :: qbody (uq ((bytesOf s).drop 1)) = bytesOf s) →
      Ev (fun k => impl_UnquoteText.j0 k s true) (strOfNums (uqt (bytesOf s)).1, (uqt (bytesOf s)).2) := by
    intro hn
    refine Ev.step (fun k => by rw [impl_UnquoteText.j0]) ?_
    unfold uqt
    rw [if_neg hn]
    exact Ev.now _
  unfold impl_UnquoteText.f
  by_cases h2 : s.size < 2
  · simp only [if_pos (show (s.size : Int) < 2 by omega)]
    exact hno (fun h => by omega)
  · simp only [if_neg (show ¬ (s.size : Int) < 2 by omega)]
    by_cases hbig : s.size > 40002
    · rw [decide_eq_true (show (s.size : Int) > 40002 by omega)]
      refine hno ?_
      rintro ⟨_, ht, h⟩
      have h1 := tv_len ht
      have h3 := qbody_len (uq ((bytesOf s).drop 1))
      have h4 := congrArg List.length h
      simp only [List.length_cons] at h4
      omega
    · rw [decide_eq_false (show ¬ (s.size : Int) > 40002 by omega)]
      refine Ev.step (fun k => by rw [impl_UnquoteText.j0]) ?_
      simp only [Bool.false_eq_true, if_false]
      have hqr := uq_range _ _ (Nat.le_refl _) (fun y hy => bytesOf_range s y (List.mem_of_mem_drop (i := 1) hy))
      have hle := uq_len _ ((bytesOf s).drop 1) (Nat.le_refl _)
      rw [List.length_drop] at hle
      refine impl_uq_l s (by omega) (by omega) _ _ ((bytesOf s).drop 1) 1 _ (uq ((bytesOf s).drop 1)) (Nat.le_refl _) rfl (by omega) (by simp) rfl ?_
      refine ev_bind (impl_tv _ (by rw [strOfNums_size]; omega)) ?_
      rw [bytesOf_str _ hqr]
      unfold uqt
      by_cases ht : tv (uq ((bytesOf s).drop 1)) = true
      · simp only [ht, if_true]
        refine ev_bind (impl_qd _ (by rw [strOfNums_size]; omega)) (ev_const fun k => ?_)
        rw [bytesOf_str _ hqr]
        have hq2 : ∀ y ∈ 34 :: qbody (uq ((bytesOf s).drop 1)), 0 ≤ y ∧ y ≤ 255 := by
          intro y hy
          rcases List.mem_cons.1 hy with hy | hy
          · omega
          · exact qbody_range _ hqr y hy
        by_cases hc : 34 :: qbody (uq ((bytesOf s).drop 1)) = bytesOf s
        · rw [if_pos (by rw [toList_iff, bytesOf_str _ hq2]; exact hc), if_pos ⟨by omega, trivial, hc⟩]
        · rw [if_neg (by rw [toList_iff, bytesOf_str _ hq2]; exact hc), if_neg (fun h => hc h.2.2)]; rfl
      · simp only [ht]
        rw [if_neg (fun h => by simp at h)]
        exact Ev.now _

theorem FnExactUnquoteText : laws_FnExactUnquoteText.Pure := by
  intro s hs
  apply Ev.rounds
  unfold laws_FnExactUnquoteText.f
  by_cases h : (s.size : Int) > 1048576
  · simp only [if_pos h]; exact Ev.now _
  · simp only [if_neg h]
    refine ev_bind (spec_uq s hs) (ev_bind (impl_uq s hs) (ev_const fun k => ?_))
    simp

end Go.Proofs.Ytidcobnbnedjdaa.Pure
