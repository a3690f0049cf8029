/- The pure statement of the law FnExactFractionText holds: for every input that meets the bounds in the statement, the printed function of the law, given enough rounds, answers true. -/
import Derived.Test.YtifeiepociopoaaDoorPFracx4
namespace Go.Proofs.YtifeiepociopoaaDoor.Pure
open Go.RowKit Go.Proofs.YtifeiepociopoaaDoor.PFrac Go.Proofs.YtifeiepociopoaaDoorW.PrintWords Go.Proofs.YtifeiepociopoaaDoorW.PrintLast Go.Proofs.YtifeiepociopoaaDoorW.PrintMore Go.Proofs.YtifeiepociopoaaDoor.Hand
set_option linter.unusedVariables false
set_option linter.unusedSimpArgs false

theorem w64 {n : Int} (h0 : -9223372036854775808 ≤ n) (h1 : n < 9223372036854775808) : wrap64 n = n := by
  unfold wrap64; omega
theorem w64n {n : Nat} (h1 : n < 9223372036854775808) : wrap64 (n : Int) = (n : Int) := w64 (by omega) (by omega)
theorem w64s {n : Nat} (h1 : n + 1 < 9223372036854775808) : wrap64 ((n : Int) + 1) = ((n + 1 : Nat) : Int) := by
  rw [w64 (by omega) (by omega)]; rfl
theorem ev_const {α : Type} {g : Nat → Option α} {r : α} (h : ∀ k, g k = some r) : Ev g r := ⟨0, fun k _ => h k⟩
theorem ev_bind {α β : Type} {g : Nat → Option α} {f : Nat → α → Option β} {a : α} {r : β} (h : Ev g a) (k : Ev (fun n => f n a) r) :
    Ev (fun n => (g n).bind (fun x => f n x)) r := Ev.bind h k
theorem bt_nat (s : ByteArray) (i : Nat) : bt s (i : Int) = (bytesOf s).getD i 0 := by
  rw [← rd_bytesOf]; simp [rd]
theorem drop_cons (l : List Int) (i : Nat) (h : i < l.length) : l.drop i = l.getD i 0 :: l.drop (i + 1) := by
  rw [List.drop_eq_getElem_cons h]; simp [List.getD_eq_getElem?_getD, h]
theorem bytesOf_range (s : ByteArray) : ∀ x ∈ bytesOf s, 0 ≤ x ∧ x ≤ 255 := by
  intro x hx
  unfold bytesOf at hx
  obtain ⟨b, _, rfl⟩ := List.mem_map.1 hx
  have := b.toNat_lt
  omega
theorem getD_range (s : ByteArray) (i : Nat) : 0 ≤ (bytesOf s).getD i 0 ∧ (bytesOf s).getD i 0 ≤ 255 := by
  rw [← bt_nat]; exact bt_range _ _
theorem map_byte_inj : ∀ (a b : List UInt8), a.map (fun b => (b.toNat : Int)) = b.map (fun b => (b.toNat : Int)) → a = b
  | [], [], _ => rfl
  | [], _ :: _, h => by simp at h
  | _ :: _, [], h => by simp at h
  | x :: a, y :: b, h => by
    simp only [List.map_cons, List.cons.injEq] at h
    have h1 : x = y := UInt8.toNat_inj.1 (by omega)
    rw [h1, map_byte_inj a b h.2]
theorem bytesOf_inj {a b : ByteArray} (h : bytesOf a = bytesOf b) : a = b := by
  have := map_byte_inj _ _ h
  apply ByteArray.ext
  exact Array.toList_inj.1 this
theorem bytesOf_app (a b : ByteArray) : bytesOf (a ++ b) = bytesOf a ++ bytesOf b := by
  unfold bytesOf
  rw [ByteArray.data_append]; simp
theorem bytesOf_cut (s : ByteArray) (i j : Nat) : bytesOf (s.extract i j) = ((bytesOf s).take j).drop i := by
  unfold bytesOf
  rw [ByteArray.data_extract]
  simp [List.drop_take]
theorem bytesOf_str (xs : List Int) (h : ∀ x ∈ xs, 0 ≤ x ∧ x ≤ 255) : bytesOf (strOfNums xs) = xs := by
  unfold bytesOf strOfNums
  simp only [List.map_map]
  conv => rhs; rw [← List.map_id xs]
  apply List.map_congr_left
  intro x hx
  have := h x hx
  have e : x.toNat % 256 = x.toNat := Nat.mod_eq_of_lt (by omega)
  simp only [Function.comp, UInt8.toNat_ofNat', id]
  omega
theorem str_bytes (s : ByteArray) : strOfNums (bytesOf s) = s :=
  bytesOf_inj (bytesOf_str _ (bytesOf_range s))
theorem toList_data (a : ByteArray) : a.toList = a.data.toList := ByteArray.toList_eq a
theorem toList_iff {a b : ByteArray} : a.toList = b.toList ↔ bytesOf a = bytesOf b := by
  constructor
  · intro h
    unfold bytesOf
    rw [← toList_data, ← toList_data, h]
  · intro h
    rw [bytesOf_inj h]
theorem size_bytes (s : ByteArray) : s.size = (bytesOf s).length := (bytesOf_length s).symm

theorem tmod_nn (a b : Int) (ha : 0 ≤ a) (hb : 0 < b) : 0 ≤ Int.tmod a b ∧ Int.tmod a b < b ∧ Int.tmod a b ≤ a := by
  rw [Int.tmod_eq_emod_of_nonneg ha]
  refine ⟨Int.emod_nonneg _ (by omega), Int.emod_lt_of_pos _ hb, ?_⟩
  have := Int.emod_add_mul_ediv a b
  have h2 : 0 ≤ a / b := Int.ediv_nonneg ha (by omega)
  have h3 : 0 ≤ b * (a / b) := Int.mul_nonneg (by omega) h2
  omega
theorem tdiv_nn (a b : Int) (ha : 0 ≤ a) (hb : 0 < b) : 0 ≤ Int.tdiv a b ∧ Int.tdiv a b ≤ a := by
  rw [Int.tdiv_eq_ediv_of_nonneg ha]
  exact ⟨Int.ediv_nonneg ha (by omega), Int.ediv_le_self _ ha⟩

/-! numerals -/
def num (n : Nat) : ByteArray := ⟨(Lib.decDigits n).toArray⟩
def dig (n : Nat) : ByteArray := strOfNums [(48 + ((n % 10 : Nat) : Int)) % 256]
theorem dig_bytes (n : Nat) : bytesOf (dig n) = [48 + ((n % 10 : Nat) : Int)] := by
  unfold dig
  rw [show (48 + ((n % 10 : Nat) : Int)) % 256 = 48 + ((n % 10 : Nat) : Int) by omega]
  exact bytesOf_str _ (fun x hx => by rw [List.mem_singleton] at hx; omega)
theorem ofNat_toNat (n : Nat) (h : n < 10) : (UInt8.ofNat (48 + n)).toNat = 48 + n := by
  rw [UInt8.toNat_ofNat']; exact Nat.mod_eq_of_lt (by omega)
theorem num_small {n : Nat} (h : n < 10) : num n = dig n := by
  apply bytesOf_inj
  rw [dig_bytes]
  unfold num bytesOf
  rw [Lib.decDigits, dif_pos h]
  simp only [List.map_cons, List.map_nil]
  rw [ofNat_toNat n h, Nat.mod_eq_of_lt h]; rfl
theorem num_big {n : Nat} (h : ¬ n < 10) : num n = num (n / 10) ++ dig n := by
  apply bytesOf_inj
  rw [bytesOf_app, dig_bytes]
  unfold num bytesOf
  rw [Lib.decDigits, dif_neg h]
  simp only [List.map_append, List.map_cons, List.map_nil]
  rw [ofNat_toNat _ (Nat.mod_lt _ (by omega))]; rfl
theorem dig_size (n : Nat) : (dig n).size = 1 := by rw [size_bytes, dig_bytes]; rfl
theorem num_size : ∀ (d n : Nat), n < 10 ^ (d + 1) → (num n).size ≤ d + 1
  | 0, n, h => by rw [num_small (by simpa using h), dig_size]; exact Nat.le_refl _
  | d + 1, n, h => by
    by_cases h10 : n < 10
    · rw [num_small h10, dig_size]; omega
    · rw [num_big h10, ByteArray.size_append, dig_size]
      have := num_size d (n / 10) (by rw [Nat.pow_succ] at h; omega)
      omega
theorem itoa_num (n : Nat) (h : n ≤ 9223372036854775807) : strconv_Itoa.f (n : Int) = some (num n) := by
  unfold strconv_Itoa.f
  rw [if_pos (by omega)]
  unfold Lib.itoa num
  rw [if_neg (by omega)]; rfl
theorem bapp_assoc (a b c : ByteArray) : (a ++ b) ++ c = a ++ (b ++ c) := by
  apply bytesOf_inj; simp only [bytesOf_app, List.append_assoc]
theorem bapp_nil (o : ByteArray) : o ++ (⟨#[]⟩ : ByteArray) = o := by
  apply bytesOf_inj; rw [bytesOf_app]; exact List.append_nil _
theorem number_l (n : Nat) : n < 1000000000000000000 → ∀ acc : ByteArray, acc.size + (num n).size ≤ 1000 →
    Ev (fun k => spec_l2Number.l0 k (n : Int) (dig n ++ acc)) (num n ++ acc) := by
  induction n using Nat.strongRecOn with
  | ind n ih =>
    intro hn acc ha
    by_cases h10 : n < 10
    · refine Ev.step (fun k => by rw [spec_l2Number.l0]) ?_
      simp only [if_neg (show ¬ (n : Int) > 9 by omega), num_small h10]
      exact Ev.now _
    · have hs : (num n).size = (num (n / 10)).size + 1 := by rw [num_big h10, ByteArray.size_append, dig_size]
      have ih2 := ih (n / 10) (by omega) (by omega) (dig n ++ acc) (by rw [ByteArray.size_append, dig_size]; omega)
      have e1 : wrap64 (Int.tdiv (n : Int) 10) = ((n / 10 : Nat) : Int) := by
        rw [Int.tdiv_eq_ediv_of_nonneg (by omega)]
        rw [show (n : Int) / 10 = ((n / 10 : Nat) : Int) by omega, w64n (by omega)]
      have e2 : (wrap64 (48 + (Int.tmod ((n / 10 : Nat) : Int) 10))) % 256 = (48 + ((n / 10 % 10 : Nat) : Int)) % 256 := by
        rw [Int.tmod_eq_emod_of_nonneg (by omega), show ((n / 10 : Nat) : Int) % 10 = ((n / 10 % 10 : Nat) : Int) by omega, w64 (by omega) (by omega)]
      have e3 : strOfNums [(48 + ((n / 10 % 10 : Nat) : Int)) % 256] = dig (n / 10) := rfl
      refine Ev.step (fun k => by rw [spec_l2Number.l0]) ?_
      simp only [if_pos (show (n : Int) > 9 by omega), Option.bind_some, e1, e2, e3, dig_size, ByteArray.size_append, if_pos (show 1 + (1 + acc.size) ≤ 9223372036854775807 by omega)]
      rw [num_big h10, bapp_assoc]
      exact ih2
theorem number (n : Nat) (h : n < 10000000000) : Ev (fun k => spec_l2Number.f k (n : Int)) (num n) := by
  unfold spec_l2Number.f
  have e2 : [(wrap64 (48 + (Int.tmod (n : Int) 10))) % 256] = [(48 + ((n % 10 : Nat) : Int)) % 256] := by
    rw [Int.tmod_eq_emod_of_nonneg (by omega), show (n : Int) % 10 = ((n % 10 : Nat) : Int) by omega, w64 (by omega) (by omega)]
  have e3 : strOfNums [(48 + ((n % 10 : Nat) : Int)) % 256] = dig n := rfl
  have hz := num_size 9 n (by omega)
  have := number_l n (by omega) (⟨#[]⟩ : ByteArray) (by show 0 + _ ≤ _; omega)
  rw [bapp_nil, bapp_nil] at this
  simp only [e2, e3]
  exact this

/-! decimal numerals, read -/
def isD (x : Int) : Bool := decide (48 ≤ x ∧ x ≤ 57)
theorem isD_iff {x : Int} : isD x = true ↔ 48 ≤ x ∧ x ≤ 57 := by unfold isD; exact decide_eq_true_iff
def dv : Int → List Int → Int
  | n, [] => n
  | n, x :: l => dv (10 * n + (x - 48)) l
theorem dv_app : ∀ (l m : List Int) (n : Int), dv n (l ++ m) = dv (dv n l) m
  | [], _, _ => rfl
  | x :: l, m, n => by rw [List.cons_append, dv, dv]; exact dv_app l m _
theorem pow10_pos (n : Nat) : (0 : Int) < 10 ^ n := Int.pow_pos (by omega)
theorem dv_acc : ∀ (l : List Int) (n : Int), dv n l = n * 10 ^ l.length + dv 0 l
  | [], n => by simp [dv]
  | x :: l, n => by
    rw [dv, dv, dv_acc l (10 * n + (x - 48)), dv_acc l (10 * 0 + (x - 48)), List.length_cons, Int.pow_succ]
    generalize (10 : Int) ^ l.length = p
    grind
theorem dv_bd : ∀ (l : List Int) (n : Int), l.all isD = true → 0 ≤ n → 0 ≤ dv n l ∧ dv n l + 1 ≤ (n + 1) * 10 ^ l.length
  | [], n, _, hn => by simp [dv]; exact hn
  | x :: l, n, h, hn => by
    rw [List.all_cons, Bool.and_eq_true] at h
    have hx := isD_iff.1 h.1
    have ih := dv_bd l (10 * n + (x - 48)) h.2 (by omega)
    rw [dv, List.length_cons, Int.pow_succ]
    refine ⟨ih.1, ?_⟩
    have hp := pow10_pos l.length
    have h2 : (10 * n + (x - 48) + 1) * 10 ^ l.length ≤ (10 * n + 10) * 10 ^ l.length := Int.mul_le_mul_of_nonneg_right (by omega) (by omega)
    have h3 : (n + 1) * (10 ^ l.length * 10) = (10 * n + 10) * 10 ^ l.length := by generalize (10 : Int) ^ l.length = p; grind
    omega
theorem num_isD : ∀ n : Nat, (bytesOf (num n)).all isD = true := by
  intro n
  induction n using Nat.strongRecOn with
  | ind n ih =>
    by_cases h : n < 10
    · rw [num_small h, dig_bytes]
      simp only [List.all_cons, List.all_nil, Bool.and_true]
      exact isD_iff.2 (by omega)
    · rw [num_big h, bytesOf_app, dig_bytes, List.all_append, ih (n / 10) (by omega)]
      simp only [List.all_cons, List.all_nil, Bool.and_true, Bool.true_and]
      exact isD_iff.2 (by omega)
theorem dv_num : ∀ n : Nat, dv 0 (bytesOf (num n)) = (n : Int) := by
  intro n
  induction n using Nat.strongRecOn with
  | ind n ih =>
    by_cases h : n < 10
    · rw [num_small h, dig_bytes]
      simp only [dv]; omega
    · rw [num_big h, bytesOf_app, dig_bytes, dv_app, ih (n / 10) (by omega)]
      simp only [dv]; omega
theorem num_pos (n : Nat) : 1 ≤ (bytesOf (num n)).length := by
  by_cases h : n < 10
  · rw [num_small h, dig_bytes]; exact Nat.le_refl _
  · rw [num_big h, bytesOf_app, dig_bytes, List.length_append]; simp
theorem num_len {n : Nat} (d : Nat) (h : n < 10 ^ (d + 1)) : (bytesOf (num n)).length ≤ d + 1 := by
  rw [← size_bytes]; exact num_size d n h

/-! fractions: plain arithmetic -/
theorem mul_bd (a b A B : Int) (ha : -A ≤ a) (ha' : a ≤ A) (hb : -B ≤ b) (hb' : b ≤ B) : -(A * B) ≤ a * b ∧ a * b ≤ A * B := by
  have h1 : 0 ≤ (A - a) * (B - b) := Int.mul_nonneg (by omega) (by omega)
  have h2 : 0 ≤ (A + a) * (B + b) := Int.mul_nonneg (by omega) (by omega)
  have h3 : 0 ≤ (A - a) * (B + b) := Int.mul_nonneg (by omega) (by omega)
  have h4 : 0 ≤ (A + a) * (B - b) := Int.mul_nonneg (by omega) (by omega)
  constructor
  · grind
  · grind
def FV (t b : Int) : Prop := -1000000000 ≤ t ∧ t ≤ 1000000000 ∧ 1 ≤ b ∧ b ≤ 1000000 ∧ Int.gcd t b = 1
instance (t b : Int) : Decidable (FV t b) := by unfold FV; infer_instance
def fv (t b : Int) : Bool := decide (FV t b)
def mk (t b : Int) : Int × Int × Bool :=
  if FV (t / (Int.gcd t b : Int)) (b / (Int.gcd t b : Int)) then (t / (Int.gcd t b : Int), b / (Int.gcd t b : Int), true) else (0, 0, false)
theorem gcd_pos {t b : Int} (hb : 0 < b) : 0 < (Int.gcd t b : Int) := by
  have : Int.gcd t b ≠ 0 := by
    intro h
    have := (Int.gcd_eq_zero_iff.1 h).2
    omega
  omega
theorem gcd_parts (t b : Int) (hb : 0 < b) : ∃ x y : Int, t / (Int.gcd t b : Int) = x ∧ b / (Int.gcd t b : Int) = y ∧ t = x * (Int.gcd t b : Int) ∧ b = y * (Int.gcd t b : Int) ∧ 0 < y := by
  have hg := gcd_pos (t := t) hb
  have h1 : t / (Int.gcd t b : Int) * (Int.gcd t b : Int) = t := Int.ediv_mul_cancel (Int.gcd_dvd_left _ _)
  have h2 : b / (Int.gcd t b : Int) * (Int.gcd t b : Int) = b := Int.ediv_mul_cancel (Int.gcd_dvd_right _ _)
  refine ⟨_, _, rfl, rfl, h1.symm, h2.symm, ?_⟩
  have h3 : 0 ≤ b / (Int.gcd t b : Int) := Int.ediv_nonneg (by omega) (by omega)
  rcases Int.lt_or_eq_of_le h3 with h | h
  · exact h
  · rw [← h] at h2; omega
theorem mk_true {t b x y : Int} (hb : 0 < b) (h : FV x y) (e : x * b = t * y) : mk t b = (x, y, true) := by
  have hy : y ∣ b := by
    have h1 : y ∣ x * b := ⟨t, by rw [e, Int.mul_comm]⟩
    have h2 := Int.natAbs_dvd_natAbs.2 h1
    rw [Int.natAbs_mul] at h2
    have h3 : Nat.Coprime y.natAbs x.natAbs := by
      have := h.2.2.2.2
      rw [Int.gcd_comm] at this
      exact this
    exact Int.natAbs_dvd_natAbs.1 (h3.dvd_of_dvd_mul_left h2)
  obtain ⟨m, rfl⟩ := hy
  have hy0 : 0 < y := by have := h.2.2.1; omega
  have hm : 0 < m := by
    rcases Int.lt_or_le 0 m with h1 | h1
    · exact h1
    · have := Int.mul_nonpos_of_nonneg_of_nonpos (a := y) (b := m) (by omega) h1
      omega
  have ht : t = x * m := by
    have : (x * m) * y = t * y := by grind
    exact (Int.eq_of_mul_eq_mul_right (by omega) this).symm
  subst ht
  have hg : (Int.gcd (x * m) (y * m) : Int) = m := by
    rw [Int.gcd_mul_right, h.2.2.2.2]
    omega
  unfold mk
  rw [hg, Int.mul_ediv_cancel _ (by omega), Int.mul_ediv_cancel _ (by omega), if_pos h]
theorem mk_cases (t b : Int) (hb : 0 < b) : mk t b = (0, 0, false) ∨ ∃ x y, FV x y ∧ x * b = t * y ∧ mk t b = (x, y, true) := by
  obtain ⟨x, y, h1, h2, h3, h4, h5⟩ := gcd_parts t b hb
  unfold mk
  rw [h1, h2]
  by_cases h : FV x y
  · right
    refine ⟨x, y, h, ?_, if_pos h⟩
    have e1 : x * b = x * (y * (Int.gcd t b : Int)) := by rw [← h4]
    have e2 : t * y = x * (Int.gcd t b : Int) * y := by rw [← h3]
    rw [e1, e2]; grind
  · left; exact if_neg h
theorem fv_unique {x y x' y' : Int} (h : FV x y) (h' : FV x' y') (e : x * y' = x' * y) : x = x' ∧ y = y' := by
  have hy : 0 < y' := by have := h'.2.2.1; omega
  have h1 := mk_true (t := x') (b := y') hy h e
  have h2 := mk_true (t := x') (b := y') hy h' rfl
  rw [h1] at h2
  simp at h2
  exact h2
theorem fv_neg {x y : Int} (h : FV x y) : FV (-x) y := by
  obtain ⟨h1, h2, h3, h4, h5⟩ := h
  exact ⟨by omega, by omega, h3, h4, by rw [Int.neg_gcd]; exact h5⟩
theorem fv_zero : FV 0 1 := by decide
theorem fv_one : FV 1 1 := by decide

/-! fractions: what the functions compute -/
theorem natAbs_tmod' (a b : Int) : (Int.tmod a b).natAbs = a.natAbs % b.natAbs := Int.natAbs_tmod a b
theorem gcd_step (a b : Int) : Int.gcd b (Int.tmod a b) = Int.gcd a b := by
  unfold Int.gcd
  rw [Int.natAbs_tmod, Nat.gcd_comm a.natAbs, Nat.gcd_comm b.natAbs, Nat.gcd_rec b.natAbs a.natAbs]
theorem mx_abs (a : Int) (h1 : -4611686018427387904 ≤ a) (h2 : a ≤ 4611686018427387904) : mx a (wrap64 (-a)) = (a.natAbs : Int) := by
  rw [w64 (by omega) (by omega)]
  unfold mx
  split <;> omega
theorem gcd_natAbs (a b : Int) : Int.gcd (a.natAbs : Int) b = Int.gcd a b := by
  unfold Int.gcd; simp
/-! sums, products, quotients -/
def noF : Int × Int × Bool := (0, 0, false)
theorem fv_iff {a b : Int} : fv a b = true ↔ FV a b := by unfold fv; exact decide_eq_true_iff
theorem tdiv_gcd (t b : Int) (hb : 0 < b) : Int.tdiv t (Int.gcd t b : Int) = t / (Int.gcd t b : Int) ∧ Int.tdiv b (Int.gcd t b : Int) = b / (Int.gcd t b : Int) := by
  have hg := gcd_pos (t := t) hb
  constructor
  · exact Int.tdiv_eq_ediv_of_dvd (Int.gcd_dvd_left _ _)
  · exact Int.tdiv_eq_ediv_of_dvd (Int.gcd_dvd_right _ _)
theorem div_small (t g : Int) (ht : -4611686018427387904 ≤ t) (ht' : t ≤ 4611686018427387904) (hg : 0 < g) : -4611686018427387904 ≤ t / g ∧ t / g ≤ 4611686018427387904 := by
  rcases Int.lt_or_le t 0 with h | h
  · have h1 : t / g ≤ 0 := by
      have := Int.ediv_neg_of_neg_of_pos h hg
      omega
    have h2 : t ≤ t / g := by
      apply Int.le_ediv_of_mul_le hg
      have h3 : 0 ≤ (-t) * (g - 1) := Int.mul_nonneg (by omega) (by omega)
      have h4 : (-t) * (g - 1) = t - t * g := by grind
      omega
    omega
  · have h1 := Int.ediv_nonneg h (show 0 ≤ g by omega)
    have h2 := Int.ediv_le_self g h
    omega
def addF (a b c d : Int) : Int × Int × Bool := if fv a b = true then (if fv c d = true then mk (a * d + c * b) (b * d) else noF) else noF
def mulF (a b c d : Int) : Int × Int × Bool := if fv a b = true then (if fv c d = true then mk (a * c) (b * d) else noF) else noF
theorem fv_bd {a b c d : Int} (h : FV a b) (h' : FV c d) : -1000000000000000 ≤ a * d ∧ a * d ≤ 1000000000000000 ∧ 0 < b * d ∧ b * d ≤ 1000000000000 ∧ -1000000000000000000 ≤ a * c ∧ a * c ≤ 1000000000000000000 := by
  obtain ⟨h1, h2, h3, h4, _⟩ := h
  obtain ⟨k1, k2, k3, k4, _⟩ := h'
  have p1 := mul_bd a d 1000000000 1000000 (by omega) (by omega) (by omega) (by omega)
  have p2 := mul_bd b d 1000000 1000000 (by omega) (by omega) (by omega) (by omega)
  have p3 := mul_bd a c 1000000000 1000000000 (by omega) (by omega) (by omega) (by omega)
  have p4 : 0 < b * d := Int.mul_pos (by omega) (by omega)
  omega

/-! the digits behind the point -/
def fdig : Nat → Nat → Nat → List Nat
  | 0, _, _ => []
  | d + 1, r, q => if r = 0 then [] else (10 * r / q) :: fdig d (10 * r % q) q
def ds (l : List Nat) : List Int := List.map (fun (n : Nat) => 48 + (n : Int)) l
def bstr (l : List Nat) : ByteArray := strOfNums (ds l)
theorem fdig_lt : ∀ (d r q : Nat), r < q → ∀ x ∈ fdig d r q, x < 10
  | 0, _, _, _, x, h => by simp [fdig] at h
  | d + 1, r, q, hr, x, h => by
    rw [fdig] at h
    by_cases h0 : r = 0
    · rw [if_pos h0] at h; cases h
    · rw [if_neg h0] at h
      rcases List.mem_cons.1 h with rfl | h
      · rw [Nat.div_lt_iff_lt_mul (by omega)]; omega
      · exact fdig_lt d _ q (Nat.mod_lt _ (by omega)) x h
theorem fdig_len : ∀ (d r q : Nat), (fdig d r q).length ≤ d
  | 0, _, _ => Nat.le_refl _
  | d + 1, r, q => by
    rw [fdig]
    split
    · exact Nat.zero_le _
    · have := fdig_len d (10 * r % q) q
      rw [List.length_cons]; omega
theorem fdig_pos (d r q : Nat) (h : 0 < r) : 1 ≤ (fdig (d + 1) r q).length := by
  rw [fdig, if_neg (by omega), List.length_cons]; omega
theorem ds_isD : ∀ (l : List Nat), (∀ x ∈ l, x < 10) → (ds l).all isD = true
  | [], _ => rfl
  | x :: l, h => by
    have hx := h x List.mem_cons_self
    unfold ds
    rw [List.map_cons, List.all_cons, Bool.and_eq_true]
    exact ⟨isD_iff.2 (by omega), ds_isD l (fun y hy => h y (List.mem_cons_of_mem _ hy))⟩
theorem ds_bytes (l : List Nat) (h : ∀ x ∈ l, x < 10) : bytesOf (bstr l) = ds l := by
  refine bytesOf_str _ (fun x hx => ?_)
  have := isD_iff.1 (List.all_eq_true.1 (ds_isD l h) x hx)
  omega
theorem ds_len (l : List Nat) : (ds l).length = l.length := by unfold ds; rw [List.length_map]
theorem fdig_val : ∀ (d r q : Nat), r < q → (r * 10 ^ d) % q = 0 → dv 0 (ds (fdig d r q)) * (q : Int) = (r : Int) * 10 ^ (fdig d r q).length
  | 0, r, q, hr, hm => by
    have h0 : r = 0 := by rw [Nat.pow_zero, Nat.mul_one, Nat.mod_eq_of_lt hr] at hm; exact hm
    subst h0
    simp [fdig, ds, dv]
  | d + 1, r, q, hr, hm => by
    rw [fdig]
    by_cases h0 : r = 0
    · rw [if_pos h0, h0]; simp [ds, dv]
    · rw [if_neg h0]
      have hrm : (10 * r % q) * 10 ^ d % q = 0 := by
        rw [← hm, Nat.pow_succ, Nat.mod_mul_mod]
        congr 1
        rw [Nat.mul_comm 10 r, Nat.mul_assoc, Nat.mul_comm 10]
      have ih := fdig_val d (10 * r % q) q (Nat.mod_lt _ (by omega)) hrm
      have hdm : q * (10 * r / q) + 10 * r % q = 10 * r := Nat.div_add_mod _ _
      have hdm' : (q : Int) * ((10 * r / q : Nat) : Int) + ((10 * r % q : Nat) : Int) = 10 * (r : Int) := by
        have := congrArg (fun n : Nat => (n : Int)) hdm
        simpa using this
      generalize fdig d (10 * r % q) q = L at ih ⊢
      generalize 10 * r % q = r' at *
      generalize 10 * r / q = a at *
      have e : ds (a :: L) = (48 + (a : Int)) :: ds L := rfl
      rw [e, dv, dv_acc, ds_len, List.length_cons, Int.pow_succ]
      generalize (10 : Int) ^ L.length = p at *
      generalize dv 0 (ds L) = V at *
      have e2 : ((10 * 0 + (48 + (a : Int) - 48)) * p + V) * (q : Int) = ((q : Int) * (a : Int)) * p + V * (q : Int) := by grind
      rw [e2, ih]
      have e3 : (q : Int) * (a : Int) * p + (r' : Int) * p = ((q : Int) * (a : Int) + (r' : Int)) * p := by grind
      rw [e3, hdm']; grind
theorem bstr_cons (x : ByteArray) (a : Nat) (l : List Nat) (ha : a < 10) (hl : ∀ y ∈ l, y < 10) : (x ++ num a) ++ bstr l = x ++ bstr (a :: l) := by
  apply bytesOf_inj
  rw [bytesOf_app, bytesOf_app, bytesOf_app, ds_bytes l hl, ds_bytes (a :: l) (by intro y hy; rcases List.mem_cons.1 hy with rfl | hy; exact ha; exact hl y hy), num_small ha, dig_bytes, Nat.mod_eq_of_lt ha, List.append_assoc]
  rfl

theorem spec_gcd_l : ∀ (n : Nat) (a b : Int), b.natAbs ≤ n → -4611686018427387904 ≤ a → a ≤ 4611686018427387904 → -4611686018427387904 ≤ b → b ≤ 4611686018427387904 →
    Ev (fun k => spec_l2Gcd.l0 k a b) (Int.gcd a b : Int) := by
  intro n
  induction n with
  | zero =>
    intro a b hn h1 h2 _ _
    have hb : b = 0 := by omega
    subst hb
    refine Ev.step (fun k => by rw [spec_l2Gcd.l0]) ?_
    simp only [if_true]
    refine ev_const fun k => ?_
    rw [w64 (by omega) (by omega), Int.gcd_zero_right]
    unfold mx
    congr 1
    split <;> omega
  | succ n ih =>
    intro a b hn h1 h2 h3 h4
    refine Ev.step (fun k => by rw [spec_l2Gcd.l0]) ?_
    by_cases hb : b = 0
    · subst hb
      simp only [if_true]
      refine ev_const fun k => ?_
      rw [w64 (by omega) (by omega), Int.gcd_zero_right]
      unfold mx
      congr 1
      split <;> omega
    · simp only [if_neg hb]
      have hm := Int.natAbs_tmod a b
      have hlt : a.natAbs % b.natAbs < b.natAbs := Nat.mod_lt _ (by omega)
      have hle : a.natAbs % b.natAbs ≤ a.natAbs := Nat.mod_le _ _
      have := ih b (Int.tmod a b) (by omega) h3 h4 (by omega) (by omega)
      rw [gcd_step] at this
      exact this

theorem spec_fv (a b : Int) : Ev (fun k => spec_FractionValid.f k a b) (fv a b) := by
  unfold spec_FractionValid.f spec_l1In.f fv
  by_cases h1 : a ≥ -1000000000
  · by_cases h2 : a ≤ 1000000000
    · by_cases h3 : b ≥ 1
      · by_cases h4 : b ≤ 1000000
        · simp only [if_pos h1, if_pos h3, decide_eq_true h2, decide_eq_true h4, Option.bind_some, if_true]
          refine ev_bind (spec_gcd_l _ a b (Nat.le_refl _) (by omega) (by omega) (by omega) (by omega)) (ev_const fun k => ?_)
          congr 1
          rw [Bool.eq_iff_iff]
          simp only [beq_iff_eq, decide_eq_true_eq]
          exact ⟨fun h => ⟨h1, h2, h3, h4, by omega⟩, fun h => by have := h.2.2.2.2; omega⟩
        · simp only [if_pos h1, if_pos h3, decide_eq_true h2, decide_eq_false h4, Option.bind_some, if_true, Bool.false_eq_true, if_false]
          refine ev_const fun k => ?_
          congr 1
          symm; exact decide_eq_false (fun h => by obtain ⟨q1, q2, q3, q4, _⟩ := h; omega)
      · simp only [if_pos h1, if_neg h3, decide_eq_true h2, Option.bind_some, if_true, Bool.false_eq_true, if_false]
        refine ev_const fun k => ?_
        congr 1
        symm; exact decide_eq_false (fun h => by obtain ⟨q1, q2, q3, q4, _⟩ := h; omega)
    · simp only [if_pos h1, decide_eq_false h2, Option.bind_some, Bool.false_eq_true, if_false]
      refine ev_const fun k => ?_
      congr 1
      symm; exact decide_eq_false (fun h => by obtain ⟨q1, q2, q3, q4, _⟩ := h; omega)
  · simp only [if_neg h1, Option.bind_some, Bool.false_eq_true, if_false]
    refine ev_const fun k => ?_
    congr 1
    symm; exact decide_eq_false (fun h => by obtain ⟨q1, q2, q3, q4, _⟩ := h; omega)

theorem impl_gcd_l : ∀ (n : Nat) (a b : Int), b.natAbs ≤ n → 0 ≤ a → 0 ≤ b →
    Ev (fun k => impl_divisor.l0 k a b) (Int.gcd a b : Int) := by
  intro n
  induction n with
  | zero =>
    intro a b hn h1 h2
    have hb : b = 0 := by omega
    subst hb
    refine Ev.step (fun k => by rw [impl_divisor.l0]) ?_
    simp only [if_true]
    refine ev_const fun k => ?_
    rw [Int.gcd_zero_right]
    congr 1
    omega
  | succ n ih =>
    intro a b hn h1 h2
    refine Ev.step (fun k => by rw [impl_divisor.l0]) ?_
    by_cases hb : b = 0
    · subst hb
      simp only [if_true]
      refine ev_const fun k => ?_
      rw [Int.gcd_zero_right]
      congr 1
      omega
    · simp only [if_neg hb]
      have hm := tmod_nn a b h1 (by omega)
      have hm' := Int.natAbs_tmod a b
      have hlt : a.natAbs % b.natAbs < b.natAbs := Nat.mod_lt _ (by omega)
      have := ih b (Int.tmod a b) (by omega) h2 (by omega)
      rw [gcd_step] at this
      exact this

theorem impl_fv (a b : Int) : Ev (fun k => impl_FractionValid.f k a b) (fv a b) := by
  unfold impl_FractionValid.f impl_in.f impl_divisor.f fv
  by_cases h1 : a ≥ -1000000000
  · by_cases h2 : a ≤ 1000000000
    · by_cases h3 : b ≥ 1
      · by_cases h4 : b ≤ 1000000
        · simp only [if_pos h1, if_pos h3, decide_eq_true h2, decide_eq_true h4, Option.bind_some, if_true, mx_abs a (by omega) (by omega)]
          refine ev_bind (impl_gcd_l _ _ b (Nat.le_refl _) (by omega) (by omega)) (ev_const fun k => ?_)
          rw [gcd_natAbs]
          congr 1
          rw [Bool.eq_iff_iff]
          simp only [beq_iff_eq, decide_eq_true_eq]
          exact ⟨fun h => ⟨h1, h2, h3, h4, by omega⟩, fun h => by have := h.2.2.2.2; omega⟩
        · simp only [if_pos h1, if_pos h3, decide_eq_true h2, decide_eq_false h4, Option.bind_some, if_true, Bool.false_eq_true, if_false]
          refine ev_const fun k => ?_
          congr 1
          symm; exact decide_eq_false (fun h => by obtain ⟨q1, q2, q3, q4, _⟩ := h; omega)
      · simp only [if_pos h1, if_neg h3, decide_eq_true h2, Option.bind_some, if_true, Bool.false_eq_true, if_false]
        refine ev_const fun k => ?_
        congr 1
        symm; exact decide_eq_false (fun h => by obtain ⟨q1, q2, q3, q4, _⟩ := h; omega)
    · simp only [if_pos h1, decide_eq_false h2, Option.bind_some, Bool.false_eq_true, if_false]
      refine ev_const fun k => ?_
      congr 1
      symm; exact decide_eq_false (fun h => by obtain ⟨q1, q2, q3, q4, _⟩ := h; omega)
  · simp only [if_neg h1, Option.bind_some, Bool.false_eq_true, if_false]
    refine ev_const fun k => ?_
    congr 1
    symm; exact decide_eq_false (fun h => by obtain ⟨q1, q2, q3, q4, _⟩ := h; omega)

theorem bstr_nil (x : ByteArray) : x ++ bstr [] = x := by
  apply bytesOf_inj; rw [bytesOf_app, ds_bytes [] (by intro x h; cases h)]; show bytesOf x ++ [] = bytesOf x; exact List.append_nil _
theorem ft_end (a0 : Int) (q : Nat) (x : ByteArray) : Ev (fun k => spec_FractionText.l0 k x ((0 : Nat) : Int) a0 (q : Int)) x ∧ Ev (fun k => impl_FractionText.l0 k x ((0 : Nat) : Int) a0 (q : Int)) x := by
  refine ⟨?_, ?_⟩
  · refine Ev.step (fun k => by rw [spec_FractionText.l0]) ?_
    simp only [if_neg (show ¬ ((0 : Nat) : Int) > 0 by omega)]; exact Ev.now _
  · refine Ev.step (fun k => by rw [impl_FractionText.l0]) ?_
    simp only [if_neg (show ¬ ((0 : Nat) : Int) > 0 by omega)]; exact Ev.now _
theorem ft_round (a0 : Int) (q r : Nat) (hq' : q ≤ 1000000) (hr : r < q) (h0 : 0 < r) (x : ByteArray) (hx : x.size ≤ 1000) (R : ByteArray) :
    (Ev (fun k => spec_FractionText.l0 k (x ++ num (10 * r / q)) ((10 * r % q : Nat) : Int) a0 (q : Int)) R → Ev (fun k => spec_FractionText.l0 k x (r : Int) a0 (q : Int)) R) ∧
    (Ev (fun k => impl_FractionText.l0 k (x ++ num (10 * r / q)) ((10 * r % q : Nat) : Int) a0 (q : Int)) R → Ev (fun k => impl_FractionText.l0 k x (r : Int) a0 (q : Int)) R) := by
  have hdl : 10 * r / q < 10 := by rw [Nat.div_lt_iff_lt_mul (by omega)]; omega
  have hsz : (num (10 * r / q)).size = 1 := by rw [num_small hdl, dig_size]
  have w1 : wrap64 (10 * (r : Int)) = ((10 * r : Nat) : Int) := by rw [w64 (by omega) (by omega)]; omega
  have w2 : wrap64 ((r : Int) * 10) = ((10 * r : Nat) : Int) := by rw [w64 (by omega) (by omega)]; omega
  have w3 : wrap64 (Int.tdiv ((10 * r : Nat) : Int) (q : Int)) = ((10 * r / q : Nat) : Int) := by
    rw [Int.tdiv_eq_ediv_of_nonneg (by omega), ← Int.natCast_ediv]
    generalize 10 * r / q = z at hdl
    exact w64n (by omega)
  have w4 : Int.tmod ((10 * r : Nat) : Int) (q : Int) = ((10 * r % q : Nat) : Int) := by
    rw [Int.tmod_eq_emod_of_nonneg (by omega), ← Int.natCast_emod]
  have hit : strconv_Itoa.f ((10 * r / q : Nat) : Int) = some (num (10 * r / q)) := by
    generalize 10 * r / q = z at hdl
    exact itoa_num z (by omega)
  have hnu : Ev (fun k => spec_l2Number.f k ((10 * r / q : Nat) : Int)) (num (10 * r / q)) := by
    generalize 10 * r / q = z at hdl
    exact number z (by omega)
  have hp : (r : Int) > 0 := by omega
  have hn : ¬ (q : Int) = 0 := by omega
  have hs : x.size + 1 ≤ 9223372036854775807 := by omega
  generalize 10 * r / q = z at *
  generalize 10 * r % q = r' at *
  generalize ((10 * r : Nat) : Int) = y at *
  refine ⟨fun h => ?_, fun h => ?_⟩
  · refine Ev.step (fun k => by rw [spec_FractionText.l0]) ?_
    simp only [if_pos hp, if_neg hn, w1, w3, w4]
    refine ev_bind hnu ?_
    simp only [hsz, if_pos hs]
    exact h
  · refine Ev.step (fun k => by rw [impl_FractionText.l0]) ?_
    simp only [if_pos hp, if_neg hn, w2, w3, w4]
    refine ev_bind (ev_const fun k => hit) ?_
    simp only [hsz, if_pos hs]
    exact h
theorem ft_loop (a0 : Int) (q : Nat) (hq' : q ≤ 1000000) : ∀ (d r : Nat) (x : ByteArray), r < q → (r * 10 ^ d) % q = 0 → d ≤ 6 → x.size + 30 * d ≤ 1000 →
    Ev (fun k => spec_FractionText.l0 k x (r : Int) a0 (q : Int)) (x ++ bstr (fdig d r q)) ∧ Ev (fun k => impl_FractionText.l0 k x (r : Int) a0 (q : Int)) (x ++ bstr (fdig d r q))
  | 0, r, x, hr, hm, _, _ => by
    have h0 : r = 0 := by rw [Nat.pow_zero, Nat.mul_one, Nat.mod_eq_of_lt hr] at hm; exact hm
    subst h0
    rw [show fdig 0 0 q = [] from rfl, bstr_nil]
    exact ft_end a0 q x
  | d + 1, r, x, hr, hm, hd, hx => by
    rcases Nat.eq_zero_or_pos r with h0 | h0
    · subst h0
      rw [show fdig (d + 1) 0 q = [] from by rw [fdig, if_pos rfl], bstr_nil]
      exact ft_end a0 q x
    · have hrm : (10 * r % q) * 10 ^ d % q = 0 := by
        rw [← hm, Nat.pow_succ, Nat.mod_mul_mod]
        congr 1
        rw [Nat.mul_comm 10 r, Nat.mul_assoc, Nat.mul_comm 10]
      clear hm
      have hq : 0 < q := Nat.lt_of_le_of_lt (Nat.zero_le _) hr
      have hdl : 10 * r / q < 10 := by rw [Nat.div_lt_iff_lt_mul hq]; omega
      have hsz : (num (10 * r / q)).size = 1 := by rw [num_small hdl, dig_size]
      have hx2 : (x ++ num (10 * r / q)).size + 30 * d ≤ 1000 := by rw [ByteArray.size_append, hsz]; omega
      have hx3 : x.size ≤ 1000 := by omega
      have ih := ft_loop a0 q hq' d (10 * r % q) (x ++ num (10 * r / q)) (Nat.mod_lt _ hq) hrm (Nat.le_of_succ_le hd) hx2
      rw [bstr_cons x _ _ hdl (fdig_lt d _ q (Nat.mod_lt _ hq))] at ih
      rw [show fdig (d + 1) r q = (10 * r / q) :: fdig d (10 * r % q) q by rw [fdig, if_neg (Nat.pos_iff_ne_zero.1 h0)]]
      have hro := ft_round a0 q r hq' hr h0 x hx3 (x ++ bstr ((10 * r / q) :: fdig d (10 * r % q) q))
      exact ⟨hro.1 ih.1, hro.2 ih.2⟩
/-- the text behind the sign. -/
def ftj (x : ByteArray) (t q : Nat) : ByteArray :=
  if 1000000 % q = 0 then (if t % q > 0 then ((x ++ num (t / q)) ++ (⟨#[46]⟩ : ByteArray)) ++ bstr (fdig 6 (t % q) q) else x ++ num (t / q))
  else ((x ++ num t) ++ (⟨#[47]⟩ : ByteArray)) ++ num q
theorem ft_j0 (a0 : Int) (q t : Nat) (hq : 1 ≤ q) (hq' : q ≤ 1000000) (ht : t ≤ 1000000000) (x : ByteArray) (hx : x.size ≤ 1) :
    Ev (fun k => spec_FractionText.j0 k x (t : Int) a0 (q : Int)) (ftj x t q) ∧ Ev (fun k => impl_FractionText.j0 k x (t : Int) a0 (q : Int)) (ftj x t q) := by
  have z1 : (num t).size ≤ 10 := num_size 9 t (by omega)
  have z2 : (num q).size ≤ 10 := num_size 9 q (by omega)
  have hdv : t / q ≤ t := Nat.div_le_self _ _
  have z3 : (num (t / q)).size ≤ 10 := num_size 9 (t / q) (by omega)
  have s47 : (⟨#[47]⟩ : ByteArray).size = 1 := rfl
  have s46 : (⟨#[46]⟩ : ByteArray).size = 1 := rfl
  have w3 : wrap64 (Int.tdiv (t : Int) (q : Int)) = ((t / q : Nat) : Int) := by
    rw [Int.tdiv_eq_ediv_of_nonneg (by omega), ← Int.natCast_ediv, w64n (by omega)]
  have w4 : Int.tmod (t : Int) (q : Int) = ((t % q : Nat) : Int) := by
    rw [Int.tmod_eq_emod_of_nonneg (by omega), ← Int.natCast_emod]
  by_cases hm : (1000000 : Int) % (q : Int) = 0
  · have hmn : 1000000 % q = 0 := by
      have : ((1000000 % q : Nat) : Int) = 0 := by rw [Int.natCast_emod]; exact hm
      omega
    have hlp : (t % q * 10 ^ 6) % q = 0 := by
      rw [Nat.mod_mul_mod, Nat.mul_mod, show 10 ^ 6 = 1000000 from rfl, hmn, Nat.mul_zero, Nat.zero_mod]
    have hrq : t % q < q := Nat.mod_lt _ (by omega)
    by_cases hr : t % q > 0
    · rw [show ftj x t q = ((x ++ num (t / q)) ++ (⟨#[46]⟩ : ByteArray)) ++ bstr (fdig 6 (t % q) q) by unfold ftj; rw [if_pos hmn, if_pos hr]]
      obtain ⟨h1, h2⟩ := ft_loop a0 q hq' 6 (t % q) ((x ++ num (t / q)) ++ (⟨#[46]⟩ : ByteArray)) hrq hlp (by omega) (by rw [ByteArray.size_append, ByteArray.size_append, s46]; omega)
      refine ⟨?_, ?_⟩
      · refine Ev.step (fun k => by rw [spec_FractionText.j0]) ?_
        simp only [if_neg (show ¬ (q : Int) = 0 by omega), if_pos hm, w3, w4]
        refine ev_bind (number (t / q) (by omega)) ?_
        simp only [if_pos (show x.size + (num (t / q)).size ≤ 9223372036854775807 by omega), if_pos (show ((t % q : Nat) : Int) > 0 by omega), ByteArray.size_append, if_pos (show x.size + (num (t / q)).size + 1 ≤ 9223372036854775807 by omega)]
        refine Ev.step (fun k => by rw [spec_FractionText.j1]) ?_
        exact h1
      · refine Ev.step (fun k => by rw [impl_FractionText.j0]) ?_
        simp only [if_neg (show ¬ (q : Int) = 0 by omega), if_pos hm, w3, w4]
        refine ev_bind (ev_const fun k => itoa_num (t / q) (by omega)) ?_
        simp only [if_pos (show x.size + (num (t / q)).size ≤ 9223372036854775807 by omega), if_pos (show ((t % q : Nat) : Int) > 0 by omega), ByteArray.size_append, if_pos (show x.size + (num (t / q)).size + 1 ≤ 9223372036854775807 by omega)]
        refine Ev.step (fun k => by rw [impl_FractionText.j1]) ?_
        exact h2
    · rw [show ftj x t q = x ++ num (t / q) by unfold ftj; rw [if_pos hmn, if_neg hr]]
      obtain ⟨h1, h2⟩ := ft_loop a0 q hq' 6 (t % q) (x ++ num (t / q)) hrq hlp (by omega) (by rw [ByteArray.size_append]; omega)
      rw [show fdig 6 (t % q) q = [] by rw [fdig, if_pos (by omega)], bstr_nil] at h1 h2
      refine ⟨?_, ?_⟩
      · refine Ev.step (fun k => by rw [spec_FractionText.j0]) ?_
        simp only [if_neg (show ¬ (q : Int) = 0 by omega), if_pos hm, w3, w4]
        refine ev_bind (number (t / q) (by omega)) ?_
        simp only [if_pos (show x.size + (num (t / q)).size ≤ 9223372036854775807 by omega), if_neg (show ¬ ((t % q : Nat) : Int) > 0 by omega)]
        refine Ev.step (fun k => by rw [spec_FractionText.j1]) ?_
        exact h1
      · refine Ev.step (fun k => by rw [impl_FractionText.j0]) ?_
        simp only [if_neg (show ¬ (q : Int) = 0 by omega), if_pos hm, w3, w4]
        refine ev_bind (ev_const fun k => itoa_num (t / q) (by omega)) ?_
        simp only [if_pos (show x.size + (num (t / q)).size ≤ 9223372036854775807 by omega), if_neg (show ¬ ((t % q : Nat) : Int) > 0 by omega)]
        refine Ev.step (fun k => by rw [impl_FractionText.j1]) ?_
        exact h2
  · have hmn : ¬ 1000000 % q = 0 := fun e => hm (by rw [show (1000000 : Int) % (q : Int) = ((1000000 % q : Nat) : Int) from by rw [Int.natCast_emod]; rfl, e]; rfl)
    rw [show ftj x t q = ((x ++ num t) ++ (⟨#[47]⟩ : ByteArray)) ++ num q by unfold ftj; rw [if_neg hmn]]
    refine ⟨?_, ?_⟩
    · refine Ev.step (fun k => by rw [spec_FractionText.j0]) ?_
      simp only [if_neg (show ¬ (q : Int) = 0 by omega), if_neg hm]
      refine ev_bind (number t (by omega)) ?_
      simp only [if_pos (show x.size + (num t).size ≤ 9223372036854775807 by omega), ByteArray.size_append, s47, if_pos (show x.size + (num t).size + 1 ≤ 9223372036854775807 by omega)]
      refine ev_bind (number q (by omega)) ?_
      simp only [if_pos (show x.size + (num t).size + 1 + (num q).size ≤ 9223372036854775807 by omega)]
      exact Ev.now _
    · refine Ev.step (fun k => by rw [impl_FractionText.j0]) ?_
      simp only [if_neg (show ¬ (q : Int) = 0 by omega), if_neg hm]
      refine ev_bind (ev_const fun k => itoa_num t (by omega)) ?_
      simp only [if_pos (show x.size + (num t).size ≤ 9223372036854775807 by omega), ByteArray.size_append, s47, if_pos (show x.size + (num t).size + 1 ≤ 9223372036854775807 by omega)]
      refine ev_bind (ev_const fun k => itoa_num q (by omega)) ?_
      simp only [if_pos (show x.size + (num t).size + 1 + (num q).size ≤ 9223372036854775807 by omega)]
      exact Ev.now _
/-- the text of a fraction. -/
def ftx (a b : Int) : ByteArray := if fv a b = true then ftj (if a < 0 then (⟨#[45]⟩ : ByteArray) else (⟨#[]⟩ : ByteArray)) a.natAbs b.natAbs else (⟨#[]⟩ : ByteArray)
theorem ft (a b : Int) : Ev (fun k => spec_FractionText.f k a b) (ftx a b) ∧ Ev (fun k => impl_FractionText.f k a b) (ftx a b) := by
  unfold ftx
  cases hv : fv a b with
  | false =>
    simp only [Bool.false_eq_true, if_false]
    refine ⟨?_, ?_⟩
    · unfold spec_FractionText.f
      refine ev_bind (spec_fv a b) ?_
      simp only [hv, Bool.false_eq_true, if_false]; exact Ev.now _
    · unfold impl_FractionText.f
      refine ev_bind (impl_fv a b) ?_
      simp only [hv, Bool.false_eq_true, if_false]; exact Ev.now _
  | true =>
    obtain ⟨g1, g2, g3, g4, _⟩ := fv_iff.1 hv
    obtain ⟨q, rfl⟩ := Int.eq_ofNat_of_zero_le (show 0 ≤ b by omega)
    simp only [if_true, Int.natAbs_natCast]
    by_cases hn : a < 0
    · obtain ⟨t, ht⟩ := Int.eq_ofNat_of_zero_le (show 0 ≤ -a by omega)
      obtain ⟨h1, h2⟩ := ft_j0 a q t (by omega) (by omega) (by omega) (⟨#[45]⟩ : ByteArray) (Nat.le_refl _)
      rw [show a.natAbs = t by omega]
      simp only [if_pos hn]
      have hw : wrap64 (-a) = (t : Int) := by rw [w64 (by omega) (by omega)]; exact ht
      refine ⟨?_, ?_⟩
      · unfold spec_FractionText.f
        refine ev_bind (spec_fv a q) ?_
        simp only [hv, if_true, if_pos hn, hw]; exact h1
      · unfold impl_FractionText.f
        refine ev_bind (impl_fv a q) ?_
        simp only [hv, if_true, if_pos hn, hw]; exact h2
    · obtain ⟨t, rfl⟩ := Int.eq_ofNat_of_zero_le (show 0 ≤ a by omega)
      obtain ⟨h1, h2⟩ := ft_j0 (t : Int) q t (by omega) (by omega) (by omega) (⟨#[]⟩ : ByteArray) (Nat.zero_le _)
      rw [show (t : Int).natAbs = t from Int.natAbs_natCast t]
      simp only [if_neg hn]
      refine ⟨?_, ?_⟩
      · unfold spec_FractionText.f
        refine ev_bind (spec_fv t q) ?_
        simp only [hv, if_true, if_neg hn]; exact h1
      · unfold impl_FractionText.f
        refine ev_bind (impl_fv t q) ?_
        simp only [hv, if_true, if_neg hn]; exact h2

theorem FnExactFractionText_pure (a b : Int) : ∃ k, laws_FnExactFractionText.f k a b = some true := by
  apply Ev.rounds
  unfold laws_FnExactFractionText.f laws_toFraction.f
  simp only [Option.bind_some]
  obtain ⟨h1, h2⟩ := ft a b
  refine ev_bind h1 (ev_bind h2 ?_)
  simp only [if_true]
  exact Ev.now _
theorem FnExactFractionText_walk (a b : Int) (W : World) (_ : (Lit.int .i64 a).wf = true) (_ : (Lit.int .i64 b).wf = true) (ht : Tab10 W) :
    Calls Tryd.prog 3 #[.agg #[.int .i64 a, .int .i64 b]] W fun e W' => e = .returned (.bool true) ∧ Below W.heap.size W W' := by
  obtain ⟨k, h⟩ := FnExactFractionText_pure a b
  exact laws_FnExactFractionText.calls k a b true W ht h

end Go.Proofs.YtifeiepociopoaaDoor.Pure
