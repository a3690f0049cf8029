/- The law FnExactDivFractions answers true: the plain statement over numbers, and the call; the four numbers are whole numbers of 64 bits. -/
import Derived.Test.YtidcobnbnedjdaaPFnExactDivFractionsx3
namespace Go.Proofs.Ytidcobnbnedjdaa.Pure
open Go.RowKit Go.Proofs.Ytidcobnbnedjdaa.PFnExactDivFractions Go.Proofs.YtidcobnbnedjdaaW.PrintWords Go.Proofs.YtidcobnbnedjdaaW.PrintLast Go.Proofs.YtidcobnbnedjdaaW.PrintMore
set_option linter.unusedVariables false
set_option linter.unusedSimpArgs false

theorem w64 {n : Int} (h0 : -9223372036854775808 ≤ n) (h1 : n < 9223372036854775808) : wrap64 n = n := by
  unfold wrap64; omega
theorem w64n {n : Nat} (h1 : n < 9223372036854775808) : wrap64 (n : Int) = (n : Int) := w64 (by omega) (by omega)
theorem w64s {n : Nat} (h1 : n + 1 < 9223372036854775808) : wrap64 ((n : Int) + 1) = ((n + 1 : Nat) : Int) := by
  rw [w64 (by omega) (by omega)]; rfl
theorem ev_const {α : Type} {g : Nat → Option α} {r : α} (h : ∀ k, g k = some r) : Ev g r := ⟨0, fun k _ => h k⟩
theorem ev_bind {α β : Type} {g : Nat → Option α} {f : Nat → α → Option β} {a : α} {r : β} (h : Ev g a) (k : Ev (fun n => f n a) r) :
    Ev (fun n => (g n).bind (fun x => f n x)) r := Ev.bind h k
theorem bt_nat (s : ByteArray) (i : Nat) : bt s (i : Int) = (bytesOf s).getD i 0 := by
  rw [← rd_bytesOf]; simp [rd]
theorem drop_cons (l : List Int) (i : Nat) (h : i < l.length) : l.drop i = l.getD i 0 :: l.drop (i + 1) := by
  rw [List.drop_eq_getElem_cons h]; simp [List.getD_eq_getElem?_getD, h]
theorem bytesOf_range (s : ByteArray) : ∀ x ∈ bytesOf s, 0 ≤ x ∧ x ≤ 255 := by
  intro x hx
  unfold bytesOf at hx
  obtain ⟨b, _, rfl⟩ := List.mem_map.1 hx
  have := b.toNat_lt
  omega
theorem getD_range (s : ByteArray) (i : Nat) : 0 ≤ (bytesOf s).getD i 0 ∧ (bytesOf s).getD i 0 ≤ 255 := by
  rw [← bt_nat]; exact bt_range _ _
theorem map_byte_inj : ∀ (a b : List UInt8), a.map (fun b => (b.toNat : Int)) = b.map (fun b => (b.toNat : Int)) → a = b
  | [], [], _ => rfl
  | [], _ :: _, h => by simp at h
  | _ :: _, [], h => by simp at h
  | x :: a, y :: b, h => by
    simp only [List.map_cons, List.cons.injEq] at h
    have h1 : x = y := UInt8.toNat_inj.1 (by omega)
    rw [h1, map_byte_inj a b h.2]
theorem bytesOf_inj {a b : ByteArray} (h : bytesOf a = bytesOf b) : a = b := by
  have := map_byte_inj _ _ h
  apply ByteArray.ext
  exact Array.toList_inj.1 this
theorem bytesOf_app (a b : ByteArray) : bytesOf (a ++ b) = bytesOf a ++ bytesOf b := by
  unfold bytesOf
  rw [ByteArray.data_append]; simp
theorem bytesOf_cut (s : ByteArray) (i j : Nat) : bytesOf (s.extract i j) = ((bytesOf s).take j).drop i := by
  unfold bytesOf
  rw [ByteArray.data_extract]
  simp [List.drop_take]
theorem bytesOf_str (xs : List Int) (h : ∀ x ∈ xs, 0 ≤ x ∧ x ≤ 255) : bytesOf (strOfNums xs) = xs := by
  unfold bytesOf strOfNums
  simp only [List.map_map]
  conv => rhs; rw [← List.map_id xs]
  apply List.map_congr_left
  intro x hx
  have := h x hx
  have e : x.toNat % 256 = x.toNat := Nat.mod_eq_of_lt (by omega)
  simp only [Function.comp, UInt8.toNat_ofNat', id]
  omega
theorem str_bytes (s : ByteArray) : strOfNums (bytesOf s) = s :=
  bytesOf_inj (bytesOf_str _ (bytesOf_range s))
theorem toList_data (a : ByteArray) : a.toList = a.data.toList := ByteArray.toList_eq a
theorem toList_iff {a b : ByteArray} : a.toList = b.toList ↔ bytesOf a = bytesOf b := by
  constructor
  · intro h
    unfold bytesOf
    rw [← toList_data, ← toList_data, h]
  · intro h
    rw [bytesOf_inj h]
theorem size_bytes (s : ByteArray) : s.size = (bytesOf s).length := (bytesOf_length s).symm

theorem tmod_nn (a b : Int) (ha : 0 ≤ a) (hb : 0 < b) : 0 ≤ Int.tmod a b ∧ Int.tmod a b < b ∧ Int.tmod a b ≤ a := by
  rw [Int.tmod_eq_emod_of_nonneg ha]
  refine ⟨Int.emod_nonneg _ (by omega), Int.emod_lt_of_pos _ hb, ?_⟩
  have := Int.emod_add_mul_ediv a b
  have h2 : 0 ≤ a / b := Int.ediv_nonneg ha (by omega)
  have h3 : 0 ≤ b * (a / b) := Int.mul_nonneg (by omega) h2
  omega
theorem tdiv_nn (a b : Int) (ha : 0 ≤ a) (hb : 0 < b) : 0 ≤ Int.tdiv a b ∧ Int.tdiv a b ≤ a := by
  rw [Int.tdiv_eq_ediv_of_nonneg ha]
  exact ⟨Int.ediv_nonneg ha (by omega), Int.ediv_le_self _ ha⟩

/-! fractions: plain arithmetic -/
theorem mul_bd (a b A B : Int) (ha : -A ≤ a) (ha' : a ≤ A) (hb : -B ≤ b) (hb' : b ≤ B) : -(A * B) ≤ a * b ∧ a * b ≤ A * B := by
  have h1 : 0 ≤ (A - a) * (B - b) := Int.mul_nonneg (by omega) (by omega)
  have h2 : 0 ≤ (A + a) * (B + b) := Int.mul_nonneg (by omega) (by omega)
  have h3 : 0 ≤ (A - a) * (B + b) := Int.mul_nonneg (by omega) (by omega)
  have h4 : 0 ≤ (A + a) * (B - b) := Int.mul_nonneg (by omega) (by omega)
  constructor
  · grind
  · grind
def FV (t b : Int) : Prop := -1000000000 ≤ t ∧ t ≤ 1000000000 ∧ 1 ≤ b ∧ b ≤ 1000000 ∧ Int.gcd t b = 1
instance (t b : Int) : Decidable (FV t b) := by unfold FV; infer_instance
def fv (t b : Int) : Bool := decide (FV t b)
def mk (t b : Int) : Int × Int × Bool :=
  if FV (t / (Int.gcd t b : Int)) (b / (Int.gcd t b : Int)) then (t / (Int.gcd t b : Int), b / (Int.gcd t b : Int), true) else (0, 0, false)
theorem gcd_pos {t b : Int} (hb : 0 < b) : 0 < (Int.gcd t b : Int) := by
  have : Int.gcd t b ≠ 0 := by
    intro h
    have := (Int.gcd_eq_zero_iff.1 h).2
    omega
  omega
theorem gcd_parts (t b : Int) (hb : 0 < b) : ∃ x y : Int, t / (Int.gcd t b : Int) = x ∧ b / (Int.gcd t b : Int) = y ∧ t = x * (Int.gcd t b : Int) ∧ b = y * (Int.gcd t b : Int) ∧ 0 < y := by
  have hg := gcd_pos (t := t) hb
  have h1 : t / (Int.gcd t b : Int) * (Int.gcd t b : Int) = t := Int.ediv_mul_cancel (Int.gcd_dvd_left _ _)
  have h2 : b / (Int.gcd t b : Int) * (Int.gcd t b : Int) = b := Int.ediv_mul_cancel (Int.gcd_dvd_right _ _)
  refine ⟨_, _, rfl, rfl, h1.symm, h2.symm, ?_⟩
  have h3 : 0 ≤ b / (Int.gcd t b : Int) := Int.ediv_nonneg (by omega) (by omega)
  rcases Int.lt_or_eq_of_le h3 with h | h
  · exact h
  · rw [← h] at h2; omega
theorem mk_true {t b x y : Int} (hb : 0 < b) (h : FV x y) (e : x * b = t * y) : mk t b = (x, y, true) := by
  have hy : y ∣ b := by
    have h1 : y ∣ x * b := ⟨t, by rw [e, Int.mul_comm]⟩
    have h2 := Int.natAbs_dvd_natAbs.2 h1
    rw [Int.natAbs_mul] at h2
    have h3 : Nat.Coprime y.natAbs x.natAbs := by
      have := h.2.2.2.2
      rw [Int.gcd_comm] at this
      exact this
    exact Int.natAbs_dvd_natAbs.1 (h3.dvd_of_dvd_mul_left h2)
  obtain ⟨m, rfl⟩ := hy
  have hy0 : 0 < y := by have := h.2.2.1; omega
  have hm : 0 < m := by
    rcases Int.lt_or_le 0 m with h1 | h1
    · exact h1
    · have := Int.mul_nonpos_of_nonneg_of_nonpos (a := y) (b := m) (by omega) h1
      omega
  have ht : t = x * m := by
    have : (x * m) * y = t * y := by grind
    exact (Int.eq_of_mul_eq_mul_right (by omega) this).symm
  subst ht
  have hg : (Int.gcd (x * m) (y * m) : Int) = m := by
    rw [Int.gcd_mul_right, h.2.2.2.2]
    omega
  unfold mk
  rw [hg, Int.mul_ediv_cancel _ (by omega), Int.mul_ediv_cancel _ (by omega), if_pos h]
theorem mk_cases (t b : Int) (hb : 0 < b) : mk t b = (0, 0, false) ∨ ∃ x y, FV x y ∧ x * b = t * y ∧ mk t b = (x, y, true) := by
  obtain ⟨x, y, h1, h2, h3, h4, h5⟩ := gcd_parts t b hb
  unfold mk
  rw [h1, h2]
  by_cases h : FV x y
  · right
    refine ⟨x, y, h, ?_, if_pos h⟩
    have e1 : x * b = x * (y * (Int.gcd t b : Int)) := by rw [← h4]
    have e2 : t * y = x * (Int.gcd t b : Int) * y := by rw [← h3]
    rw [e1, e2]; grind
  · left; exact if_neg h
theorem fv_unique {x y x' y' : Int} (h : FV x y) (h' : FV x' y') (e : x * y' = x' * y) : x = x' ∧ y = y' := by
  have hy : 0 < y' := by have := h'.2.2.1; omega
  have h1 := mk_true (t := x') (b := y') hy h e
  have h2 := mk_true (t := x') (b := y') hy h' rfl
  rw [h1] at h2
  simp at h2
  exact h2
theorem fv_neg {x y : Int} (h : FV x y) : FV (-x) y := by
  obtain ⟨h1, h2, h3, h4, h5⟩ := h
  exact ⟨by omega, by omega, h3, h4, by rw [Int.neg_gcd]; exact h5⟩
theorem fv_zero : FV 0 1 := by decide
theorem fv_one : FV 1 1 := by decide

/-! fractions: what the functions compute -/
theorem natAbs_tmod' (a b : Int) : (Int.tmod a b).natAbs = a.natAbs % b.natAbs := Int.natAbs_tmod a b
theorem gcd_step (a b : Int) : Int.gcd b (Int.tmod a b) = Int.gcd a b := by
  unfold Int.gcd
  rw [Int.natAbs_tmod, Nat.gcd_comm a.natAbs, Nat.gcd_comm b.natAbs, Nat.gcd_rec b.natAbs a.natAbs]
theorem mx_abs (a : Int) (h1 : -4611686018427387904 ≤ a) (h2 : a ≤ 4611686018427387904) : mx a (wrap64 (-a)) = (a.natAbs : Int) := by
  rw [w64 (by omega) (by omega)]
  unfold mx
  split <;> omega
theorem gcd_natAbs (a b : Int) : Int.gcd (a.natAbs : Int) b = Int.gcd a b := by
  unfold Int.gcd; simp
/-! sums, products, quotients -/
def noF : Int × Int × Bool := (0, 0, false)
theorem fv_iff {a b : Int} : fv a b = true ↔ FV a b := by unfold fv; exact decide_eq_true_iff
theorem tdiv_gcd (t b : Int) (hb : 0 < b) : Int.tdiv t (Int.gcd t b : Int) = t / (Int.gcd t b : Int) ∧ Int.tdiv b (Int.gcd t b : Int) = b / (Int.gcd t b : Int) := by
  have hg := gcd_pos (t := t) hb
  constructor
  · exact Int.tdiv_eq_ediv_of_dvd (Int.gcd_dvd_left _ _)
  · exact Int.tdiv_eq_ediv_of_dvd (Int.gcd_dvd_right _ _)
theorem div_small (t g : Int) (ht : -4611686018427387904 ≤ t) (ht' : t ≤ 4611686018427387904) (hg : 0 < g) : -4611686018427387904 ≤ t / g ∧ t / g ≤ 4611686018427387904 := by
  rcases Int.lt_or_le t 0 with h | h
  · have h1 : t / g ≤ 0 := by
      have := Int.ediv_neg_of_neg_of_pos h hg
      omega
    have h2 : t ≤ t / g := by
      apply Int.le_ediv_of_mul_le hg
      have h3 : 0 ≤ (-t) * (g - 1) := Int.mul_nonneg (by omega) (by omega)
      have h4 : (-t) * (g - 1) = t - t * g := by grind
      omega
    omega
  · have h1 := Int.ediv_nonneg h (show 0 ≤ g by omega)
    have h2 := Int.ediv_le_self g h
    omega
def addF (a b c d : Int) : Int × Int × Bool := if fv a b = true then (if fv c d = true then mk (a * d + c * b) (b * d) else noF) else noF
def mulF (a b c d : Int) : Int × Int × Bool := if fv a b = true then (if fv c d = true then mk (a * c) (b * d) else noF) else noF
theorem fv_bd {a b c d : Int} (h : FV a b) (h' : FV c d) : -1000000000000000 ≤ a * d ∧ a * d ≤ 1000000000000000 ∧ 0 < b * d ∧ b * d ≤ 1000000000000 ∧ -1000000000000000000 ≤ a * c ∧ a * c ≤ 1000000000000000000 := by
  obtain ⟨h1, h2, h3, h4, _⟩ := h
  obtain ⟨k1, k2, k3, k4, _⟩ := h'
  have p1 := mul_bd a d 1000000000 1000000 (by omega) (by omega) (by omega) (by omega)
  have p2 := mul_bd b d 1000000 1000000 (by omega) (by omega) (by omega) (by omega)
  have p3 := mul_bd a c 1000000000 1000000000 (by omega) (by omega) (by omega) (by omega)
  have p4 : 0 < b * d := Int.mul_pos (by omega) (by omega)
  omega

def divF (a b c d : Int) : Int × Int × Bool := if fv a b = true then (if fv c d = true then (if c = 0 then noF else if c < 0 then mk (-(a * d)) (-(b * c)) else mk (a * d) (b * c)) else noF) else noF
theorem div_bd {a b c d : Int} (h : FV a b) (h' : FV c d) : -1000000000000000 ≤ a * d ∧ a * d ≤ 1000000000000000 ∧ -1000000000000000 ≤ b * c ∧ b * c ≤ 1000000000000000 ∧ (0 < c → 0 < b * c) ∧ (c < 0 → b * c < 0) := by
  obtain ⟨h1, h2, h3, h4, _⟩ := h
  obtain ⟨k1, k2, k3, k4, _⟩ := h'
  have p1 := mul_bd a d 1000000000 1000000 (by omega) (by omega) (by omega) (by omega)
  have p2 := mul_bd b c 1000000 1000000000 (by omega) (by omega) (by omega) (by omega)
  refine ⟨by omega, by omega, by omega, by omega, fun hc => Int.mul_pos (by omega) hc, fun hc => ?_⟩
  have := Int.mul_pos (a := b) (b := -c) (by omega) (by omega)
  rw [Int.mul_neg] at this; omega

theorem spec_gcd_l : ∀ (n : Nat) (a b : Int), b.natAbs ≤ n → -4611686018427387904 ≤ a → a ≤ 4611686018427387904 → -4611686018427387904 ≤ b → b ≤ 4611686018427387904 →
    Ev (fun k => spec_l2Gcd.l0 k a b) (Int.gcd a b : Int) := by
  intro n
  induction n with
  | zero =>
    intro a b hn h1 h2 _ _
    have hb : b = 0 := by omega
    subst hb
    refine Ev.step (fun k => by rw [spec_l2Gcd.l0]) ?_
    simp only [if_true]
    refine ev_const fun k => ?_
    rw [w64 (by omega) (by omega), Int.gcd_zero_right]
    unfold mx
    congr 1
    split <;> omega
  | succ n ih =>
    intro a b hn h1 h2 h3 h4
    refine Ev.step (fun k => by rw [spec_l2Gcd.l0]) ?_
    by_cases hb : b = 0
    · subst hb
      simp only [if_true]
      refine ev_const fun k => ?_
      rw [w64 (by omega) (by omega), Int.gcd_zero_right]
      unfold mx
      congr 1
      split <;> omega
    · simp only [if_neg hb]
      have hm := Int.natAbs_tmod a b
      have hlt : a.natAbs % b.natAbs < b.natAbs := Nat.mod_lt _ (by omega)
      have hle : a.natAbs % b.natAbs ≤ a.natAbs := Nat.mod_le _ _
      have := ih b (Int.tmod a b) (by omega) h3 h4 (by omega) (by omega)
      rw [gcd_step] at this
      exact this

theorem spec_fv (a b : Int) : Ev (fun k => spec_FractionValid.f k a b) (fv a b) := by
  unfold spec_FractionValid.f spec_l1In.f fv
  by_cases h1 : a ≥ -1000000000
  · by_cases h2 : a ≤ 1000000000
    · by_cases h3 : b ≥ 1
      · by_cases h4 : b ≤ 1000000
        · simp only [if_pos h1, if_pos h3, decide_eq_true h2, decide_eq_true h4, Option.bind_some, if_true]
          refine ev_bind (spec_gcd_l _ a b (Nat.le_refl _) (by omega) (by omega) (by omega) (by omega)) (ev_const fun k => ?_)
          congr 1
          rw [Bool.eq_iff_iff]
          simp only [beq_iff_eq, decide_eq_true_eq]
          exact ⟨fun h => ⟨h1, h2, h3, h4, by omega⟩, fun h => by have := h.2.2.2.2; omega⟩
        · simp only [if_pos h1, if_pos h3, decide_eq_true h2, decide_eq_false h4, Option.bind_some, if_true, Bool.false_eq_true, if_false]
          refine ev_const fun k => ?_
          congr 1
          symm; exact decide_eq_false (fun h => by obtain ⟨q1, q2, q3, q4, _⟩ := h; omega)
      · simp only [if_pos h1, if_neg h3, decide_eq_true h2, Option.bind_some, if_true, Bool.false_eq_true, if_false]
        refine ev_const fun k => ?_
        congr 1
        symm; exact decide_eq_false (fun h => by obtain ⟨q1, q2, q3, q4, _⟩ := h; omega)
    · simp only [if_pos h1, decide_eq_false h2, Option.bind_some, Bool.false_eq_true, if_false]
      refine ev_const fun k => ?_
      congr 1
      symm; exact decide_eq_false (fun h => by obtain ⟨q1, q2, q3, q4, _⟩ := h; omega)
  · simp only [if_neg h1, Option.bind_some, Bool.false_eq_true, if_false]
    refine ev_const fun k => ?_
    congr 1
    symm; exact decide_eq_false (fun h => by obtain ⟨q1, q2, q3, q4, _⟩ := h; omega)

theorem spec_mk (t b : Int) (ht : -4611686018427387904 ≤ t) (ht' : t ≤ 4611686018427387904) (hb : 0 < b) (hb' : b ≤ 4611686018427387904) : Ev (fun k => spec_l2Make.f k t b) (mk t b) := by
  unfold spec_l2Make.f
  refine ev_bind (spec_gcd_l _ t b (Nat.le_refl _) ht ht' (by omega) hb') ?_
  have hg := gcd_pos (t := t) hb
  have hd := tdiv_gcd t b hb
  have h1 := div_small t _ ht ht' hg
  have h2 := div_small b _ (by omega) hb' hg
  simp only [if_neg (show ¬ (Int.gcd t b : Int) = 0 by omega), hd.1, hd.2, w64 (n := t / (Int.gcd t b : Int)) (by omega) (by omega), w64 (n := b / (Int.gcd t b : Int)) (by omega) (by omega)]
  refine ev_bind (spec_fv _ _) ?_
  unfold mk
  by_cases h : FV (t / (Int.gcd t b : Int)) (b / (Int.gcd t b : Int))
  · simp only [fv_iff.2 h, if_true, if_pos h]; exact Ev.now _
  · have : fv (t / (Int.gcd t b : Int)) (b / (Int.gcd t b : Int)) = false := by
      rw [Bool.eq_false_iff]; exact fun e => h (fv_iff.1 e)
    simp only [this, Bool.false_eq_true, if_false, if_neg h]; exact Ev.now _

theorem spec_div (a b c d : Int) : Ev (fun k => spec_DivFractions.f k a b c d) (divF a b c d) := by
  unfold spec_DivFractions.f divF
  have hno : ∀ a b c d, Ev (fun k => spec_DivFractions.j0 k true a b c d) noF := by
    intro a b c d
    refine Ev.step (fun k => by rw [spec_DivFractions.j0]) ?_
    simp only [if_true]; exact Ev.now _
  refine ev_bind (spec_fv a b) ?_
  by_cases h1 : fv a b = true
  · simp only [h1, if_true]
    refine ev_bind (spec_fv c d) ?_
    by_cases h2 : fv c d = true
    · simp only [h2, if_true]
      by_cases hc : c = 0
      · subst hc
        exact hno _ _ _ _
      · have e : (c == 0) = false := by simpa using hc
        simp only [e, if_neg hc]
        have q := div_bd (fv_iff.1 h1) (fv_iff.1 h2)
        refine Ev.step (fun k => by rw [spec_DivFractions.j0]) ?_
        simp only [Bool.false_eq_true, if_false, w64 (n := a * d) (by omega) (by omega), w64 (n := b * c) (by omega) (by omega)]
        by_cases hn : c < 0
        · have := q.2.2.2.2.2 hn
          simp only [if_pos hn, if_pos this, w64 (n := -(a * d)) (by omega) (by omega), w64 (n := -(b * c)) (by omega) (by omega)]
          exact ev_bind (spec_mk _ _ (by omega) (by omega) (by omega) (by omega)) (Ev.now _)
        · have := q.2.2.2.2.1 (by omega)
          simp only [if_neg hn, if_neg (show ¬ b * c < 0 by omega)]
          exact ev_bind (spec_mk _ _ (by omega) (by omega) (by omega) (by omega)) (Ev.now _)
    · simp only [h2]
      exact hno _ _ _ _
  · simp only [h1]
    exact hno _ _ _ _

theorem impl_gcd_l : ∀ (n : Nat) (a b : Int), b.natAbs ≤ n → 0 ≤ a → 0 ≤ b →
    Ev (fun k => impl_divisor.l0 k a b) (Int.gcd a b : Int) := by
  intro n
  induction n with
  | zero =>
    intro a b hn h1 h2
    have hb : b = 0 := by omega
    subst hb
    refine Ev.step (fun k => by rw [impl_divisor.l0]) ?_
    simp only [if_true]
    refine ev_const fun k => ?_
    rw [Int.gcd_zero_right]
    congr 1
    omega
  | succ n ih =>
    intro a b hn h1 h2
    refine Ev.step (fun k => by rw [impl_divisor.l0]) ?_
    by_cases hb : b = 0
    · subst hb
      simp only [if_true]
      refine ev_const fun k => ?_
      rw [Int.gcd_zero_right]
      congr 1
      omega
    · simp only [if_neg hb]
      have hm := tmod_nn a b h1 (by omega)
      have hm' := Int.natAbs_tmod a b
      have hlt : a.natAbs % b.natAbs < b.natAbs := Nat.mod_lt _ (by omega)
      have := ih b (Int.tmod a b) (by omega) h2 (by omega)
      rw [gcd_step] at this
      exact this

theorem impl_fv (a b : Int) : Ev (fun k => impl_FractionValid.f k a b) (fv a b) := by
  unfold impl_FractionValid.f impl_in.f impl_divisor.f fv
  by_cases h1 : a ≥ -1000000000
  · by_cases h2 : a ≤ 1000000000
    · by_cases h3 : b ≥ 1
      · by_cases h4 : b ≤ 1000000
        · simp only [if_pos h1, if_pos h3, decide_eq_true h2, decide_eq_true h4, Option.bind_some, if_true, mx_abs a (by omega) (by omega)]
          refine ev_bind (impl_gcd_l _ _ b (Nat.le_refl _) (by omega) (by omega)) (ev_const fun k => ?_)
          rw [gcd_natAbs]
          congr 1
          rw [Bool.eq_iff_iff]
          simp only [beq_iff_eq, decide_eq_true_eq]
          exact ⟨fun h => ⟨h1, h2, h3, h4, by omega⟩, fun h => by have := h.2.2.2.2; omega⟩
        · simp only [if_pos h1, if_pos h3, decide_eq_true h2, decide_eq_false h4, Option.bind_some, if_true, Bool.false_eq_true, if_false]
          refine ev_const fun k => ?_
          congr 1
          symm; exact decide_eq_false (fun h => by obtain ⟨q1, q2, q3, q4, _⟩ := h; omega)
      · simp only [if_pos h1, if_neg h3, decide_eq_true h2, Option.bind_some, if_true, Bool.false_eq_true, if_false]
        refine ev_const fun k => ?_
        congr 1
        symm; exact decide_eq_false (fun h => by obtain ⟨q1, q2, q3, q4, _⟩ := h; omega)
    · simp only [if_pos h1, decide_eq_false h2, Option.bind_some, Bool.false_eq_true, if_false]
      refine ev_const fun k => ?_
      congr 1
      symm; exact decide_eq_false (fun h => by obtain ⟨q1, q2, q3, q4, _⟩ := h; omega)
  · simp only [if_neg h1, Option.bind_some, Bool.false_eq_true, if_false]
    refine ev_const fun k => ?_
    congr 1
    symm; exact decide_eq_false (fun h => by obtain ⟨q1, q2, q3, q4, _⟩ := h; omega)

theorem impl_mk_j (t b : Int) (ht : -4611686018427387904 ≤ t) (ht' : t ≤ 4611686018427387904) (hb : 0 < b) (hb' : b ≤ 4611686018427387904) : Ev (fun k => impl_reduced.j0 k t b) (mk t b) := by
  refine Ev.step (fun k => by rw [impl_reduced.j0]) ?_
  rw [mx_abs t ht ht']
  have hgg : Ev (fun k => impl_divisor.f k (t.natAbs : Int) b) (Int.gcd t b : Int) := by
    have := impl_gcd_l _ (t.natAbs : Int) b (Nat.le_refl _) (by omega) (by omega)
    rw [gcd_natAbs] at this
    exact this
  refine ev_bind hgg ?_
  have hg := gcd_pos (t := t) hb
  have hd := tdiv_gcd t b hb
  have h1 := div_small t _ ht ht' hg
  have h2 := div_small b _ (by omega) hb' hg
  simp only [if_neg (show ¬ (Int.gcd t b : Int) = 0 by omega), hd.1, hd.2, w64 (n := t / (Int.gcd t b : Int)) (by omega) (by omega), w64 (n := b / (Int.gcd t b : Int)) (by omega) (by omega)]
  refine ev_bind (impl_fv _ _) ?_
  unfold mk
  by_cases h : FV (t / (Int.gcd t b : Int)) (b / (Int.gcd t b : Int))
  · simp only [fv_iff.2 h, if_true, if_pos h]; exact Ev.now _
  · have : fv (t / (Int.gcd t b : Int)) (b / (Int.gcd t b : Int)) = false := by
      rw [Bool.eq_false_iff]; exact fun e => h (fv_iff.1 e)
    simp only [this, Bool.false_eq_true, if_false, if_neg h]; exact Ev.now _
theorem impl_mk (t b : Int) (ht : -4611686018427387904 ≤ t) (ht' : t ≤ 4611686018427387904) (hb : 0 < b) (hb' : b ≤ 4611686018427387904) : Ev (fun k => impl_reduced.f k t b) (mk t b) := by
  unfold impl_reduced.f
  simp only [if_neg (show ¬ b < 0 by omega)]
  exact impl_mk_j t b ht ht' hb hb'
theorem impl_mk_neg (t b : Int) (ht : -4611686018427387904 ≤ t) (ht' : t ≤ 4611686018427387904) (hb : b < 0) (hb' : -4611686018427387904 ≤ b) : Ev (fun k => impl_reduced.f k t b) (mk (-t) (-b)) := by
  unfold impl_reduced.f
  simp only [if_pos hb, w64 (n := -t) (by omega) (by omega), w64 (n := -b) (by omega) (by omega)]
  exact impl_mk_j _ _ (by omega) (by omega) (by omega) (by omega)

theorem impl_div (a b c d : Int) : Ev (fun k => impl_DivFractions.f k a b c d) (divF a b c d) := by
  unfold impl_DivFractions.f divF
  refine ev_bind (impl_fv a b) ?_
  by_cases h1 : fv a b = true
  · simp only [h1, if_true]
    refine ev_bind (impl_fv c d) ?_
    by_cases h2 : fv c d = true
    · simp only [h2, if_true]
      by_cases hc : c = 0
      · simp only [if_pos hc]; exact Ev.now _
      · simp only [if_neg hc]
        have q := div_bd (fv_iff.1 h1) (fv_iff.1 h2)
        rw [w64 (n := a * d) (by omega) (by omega), w64 (n := b * c) (by omega) (by omega)]
        by_cases hn : c < 0
        · have := q.2.2.2.2.2 hn
          simp only [if_pos hn]
          exact ev_bind (impl_mk_neg _ _ (by omega) (by omega) (by omega) (by omega)) (Ev.now _)
        · have := q.2.2.2.2.1 (by omega)
          simp only [if_neg hn]
          exact ev_bind (impl_mk _ _ (by omega) (by omega) (by omega) (by omega)) (Ev.now _)
    · simp only [h2]; exact Ev.now _
  · simp only [h1]; exact Ev.now _

theorem FnExactDivFractions (a b c d : Int) : ∃ k, laws_FnExactDivFractions.f k a b c d = some true := by
  apply Ev.rounds
  unfold laws_FnExactDivFractions.f laws_toFraction.f
  simp only [Option.bind_some]
  refine ev_bind (spec_div a b c d) (ev_bind (impl_div a b c d) (ev_const fun k => ?_))
  simp [laws_eqFraction.f]
theorem FnExactDivFractions_walk (a b c d : Int) (W : World) (_ : (Lit.int .i64 a).wf = true) (_ : (Lit.int .i64 b).wf = true) (_ : (Lit.int .i64 c).wf = true) (_ : (Lit.int .i64 d).wf = true) :
    Calls Try.prog 12 #[.agg #[.int .i64 a, .int .i64 b], .agg #[.int .i64 c, .int .i64 d]] W fun e W' => e = .returned (.bool true) ∧ Below W.heap.size W W' := by
  obtain ⟨k, h⟩ := FnExactDivFractions a b c d
  exact laws_FnExactDivFractions.calls k a b c d true W h

end Go.Proofs.Ytidcobnbnedjdaa.Pure
