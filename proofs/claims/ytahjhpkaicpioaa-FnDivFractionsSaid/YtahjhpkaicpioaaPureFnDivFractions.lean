/- The pure statement of the law FnDivFractions holds: for every input that meets the bounds in the statement, the printed function of the law, given enough rounds, answers true. -/
import Derived.Test.YtahjhpkaicpioaaPFnDivFractionsx6
import Derived.Test.YtahjhpkaicpioaaWSized
namespace Go.Proofs.Ytahjhpkaicpioaa.Pure
open Go.RowKit Go.Proofs.Ytahjhpkaicpioaa.PFnDivFractions Go.Proofs.YtahjhpkaicpioaaW.PrintWords Go.Proofs.YtahjhpkaicpioaaW.PrintLast Go.Proofs.YtahjhpkaicpioaaW.PrintMore
set_option linter.unusedVariables false
set_option linter.unusedSimpArgs false

theorem w64 {n : Int} (h0 : -9223372036854775808 ≤ n) (h1 : n < 9223372036854775808) : wrap64 n = n := by
  unfold wrap64; omega
theorem w64n {n : Nat} (h1 : n < 9223372036854775808) : wrap64 (n : Int) = (n : Int) := w64 (by omega) (by omega)
theorem w64s {n : Nat} (h1 : n + 1 < 9223372036854775808) : wrap64 ((n : Int) + 1) = ((n + 1 : Nat) : Int) := by
  rw [w64 (by omega) (by omega)]; rfl
theorem ev_const {α : Type} {g : Nat → Option α} {r : α} (h : ∀ k, g k = some r) : Ev g r := ⟨0, fun k _ => h k⟩
theorem ev_bind {α β : Type} {g : Nat → Option α} {f : Nat → α → Option β} {a : α} {r : β} (h : Ev g a) (k : Ev (fun n => f n a) r) :
    Ev (fun n => (g n).bind (fun x => f n x)) r := Ev.bind h k
theorem bt_nat (s : ByteArray) (i : Nat) : bt s (i : Int) = (bytesOf s).getD i 0 := by
  rw [← rd_bytesOf]; simp [rd]
theorem drop_cons (l : List Int) (i : Nat) (h : i < l.length) : l.drop i = l.getD i 0 :: l.drop (i + 1) := by
  rw [List.drop_eq_getElem_cons h]; simp [List.getD_eq_getElem?_getD, h]
theorem bytesOf_range (s : ByteArray) : ∀ x ∈ bytesOf s, 0 ≤ x ∧ x ≤ 255 := by
  intro x hx
  unfold bytesOf at hx
  obtain ⟨b, _, rfl⟩ := List.mem_map.1 hx
  have := b.toNat_lt
  omega
theorem getD_range (s : ByteArray) (i : Nat) : 0 ≤ (bytesOf s).getD i 0 ∧ (bytesOf s).getD i 0 ≤ 255 := by
  rw [← bt_nat]; exact bt_range _ _
theorem map_byte_inj : ∀ (a b : List UInt8), a.map (fun b => (b.toNat : Int)) = b.map (fun b => (b.toNat : Int)) → a = b
  | [], [], _ => rfl
  | [], _ :: _, h => by simp at h
  | _ :: _, [], h => by simp at h
  | x :: a, y :: b, h => by
    simp only [List.map_cons, List.cons.injEq] at h
    have h1 : x = y := UInt8.toNat_inj.1 (by omega)
    rw [h1, map_byte_inj a b h.2]
theorem bytesOf_inj {a b : ByteArray} (h : bytesOf a = bytesOf b) : a = b := by
  have := map_byte_inj _ _ h
  apply ByteArray.ext
  exact Array.toList_inj.1 this
theorem bytesOf_app (a b : ByteArray) : bytesOf (a ++ b) = bytesOf a ++ bytesOf b := by
  unfold bytesOf
  rw [ByteArray.data_append]; simp
theorem bytesOf_cut (s : ByteArray) (i j : Nat) : bytesOf (s.extract i j) = ((bytesOf s).take j).drop i := by
  unfold bytesOf
  rw [ByteArray.data_extract]
  simp [List.drop_take]
theorem bytesOf_str (xs : List Int) (h : ∀ x ∈ xs, 0 ≤ x ∧ x ≤ 255) : bytesOf (strOfNums xs) = xs := by
  unfold bytesOf strOfNums
  simp only [List.map_map]
  conv => rhs; rw [← List.map_id xs]
  apply List.map_congr_left
  intro x hx
  have := h x hx
  have e : x.toNat % 256 = x.toNat := Nat.mod_eq_of_lt (by omega)
  simp only [Function.comp, UInt8.toNat_ofNat', id]
  omega
theorem str_bytes (s : ByteArray) : strOfNums (bytesOf s) = s :=
  bytesOf_inj (bytesOf_str _ (bytesOf_range s))
theorem toList_data (a : ByteArray) : a.toList = a.data.toList := ByteArray.toList_eq a
theorem toList_iff {a b : ByteArray} : a.toList = b.toList ↔ bytesOf a = bytesOf b := by
  constructor
  · intro h
    unfold bytesOf
    rw [← toList_data, ← toList_data, h]
  · intro h
    rw [bytesOf_inj h]
theorem size_bytes (s : ByteArray) : s.size = (bytesOf s).length := (bytesOf_length s).symm

theorem tmod_nn (a b : Int) (ha : 0 ≤ a) (hb : 0 < b) : 0 ≤ Int.tmod a b ∧ Int.tmod a b < b ∧ Int.tmod a b ≤ a := by
  rw [Int.tmod_eq_emod_of_nonneg ha]
  refine ⟨Int.emod_nonneg _ (by omega), Int.emod_lt_of_pos _ hb, ?_⟩
  have := Int.emod_add_mul_ediv a b
  have h2 : 0 ≤ a / b := Int.ediv_nonneg ha (by omega)
  have h3 : 0 ≤ b * (a / b) := Int.mul_nonneg (by omega) h2
  omega
theorem tdiv_nn (a b : Int) (ha : 0 ≤ a) (hb : 0 < b) : 0 ≤ Int.tdiv a b ∧ Int.tdiv a b ≤ a := by
  rw [Int.tdiv_eq_ediv_of_nonneg ha]
  exact ⟨Int.ediv_nonneg ha (by omega), Int.ediv_le_self _ ha⟩

/-! fractions: plain arithmetic -/
theorem mul_bd (a b A B : Int) (ha : -A ≤ a) (ha' : a ≤ A) (hb : -B ≤ b) (hb' : b ≤ B) : -(A * B) ≤ a * b ∧ a * b ≤ A * B := by
  have h1 : 0 ≤ (A - a) * (B - b) := Int.mul_nonneg (by omega) (by omega)
  have h2 : 0 ≤ (A + a) * (B + b) := Int.mul_nonneg (by omega) (by omega)
  have h3 : 0 ≤ (A - a) * (B + b) := Int.mul_nonneg (by omega) (by omega)
  have h4 : 0 ≤ (A + a) * (B - b) := Int.mul_nonneg (by omega) (by omega)
  constructor
  · grind
  · grind
def FV (t b : Int) : Prop := -1000000000 ≤ t ∧ t ≤ 1000000000 ∧ 1 ≤ b ∧ b ≤ 1000000 ∧ Int.gcd t b = 1
instance (t b : Int) : Decidable (FV t b) := by unfold FV; infer_instance
def fv (t b : Int) : Bool := decide (FV t b)
def mk (t b : Int) : Int × Int × Bool :=
  if FV (t / (Int.gcd t b : Int)) (b / (Int.gcd t b : Int)) then (t / (Int.gcd t b : Int), b / (Int.gcd t b : Int), true) else (0, 0, false)
theorem gcd_pos {t b : Int} (hb : 0 < b) : 0 < (Int.gcd t b : Int) := by
  have : Int.gcd t b ≠ 0 := by
    intro h
    have := (Int.gcd_eq_zero_iff.1 h).2
    omega
  omega
theorem gcd_parts (t b : Int) (hb : 0 < b) : ∃ x y : Int, t / (Int.gcd t b : Int) = x ∧ b / (Int.gcd t b : Int) = y ∧ t = x * (Int.gcd t b : Int) ∧ b = y * (Int.gcd t b : Int) ∧ 0 < y := by
  have hg := gcd_pos (t := t) hb
  have h1 : t / (Int.gcd t b : Int) * (Int.gcd t b : Int) = t := Int.ediv_mul_cancel (Int.gcd_dvd_left _ _)
  have h2 : b / (Int.gcd t b : Int) * (Int.gcd t b : Int) = b := Int.ediv_mul_cancel (Int.gcd_dvd_right _ _)
  refine ⟨_, _, rfl, rfl, h1.symm, h2.symm, ?_⟩
  have h3 : 0 ≤ b / (Int.gcd t b : Int) := Int.ediv_nonneg (by omega) (by omega)
  rcases Int.lt_or_eq_of_le h3 with h | h
  · exact h
  · rw [← h] at h2; omega
theorem mk_true {t b x y : Int} (hb : 0 < b) (h : FV x y) (e : x * b = t * y) : mk t b = (x, y, true) := by
  have hy : y ∣ b := by
    have h1 : y ∣ x * b := ⟨t, by rw [e, Int.mul_comm]⟩
    have h2 := Int.natAbs_dvd_natAbs.2 h1
    rw [Int.natAbs_mul] at h2
    have h3 : Nat.Coprime y.natAbs x.natAbs := by
      have := h.2.2.2.2
      rw [Int.gcd_comm] at this
      exact this
    exact Int.natAbs_dvd_natAbs.1 (h3.dvd_of_dvd_mul_left h2)
  obtain ⟨m, rfl⟩ := hy
  have hy0 : 0 < y := by have := h.2.2.1; omega
  have hm : 0 < m := by
    rcases Int.lt_or_le 0 m with h1 | h1
    · exact h1
    · have := Int.mul_nonpos_of_nonneg_of_nonpos (a := y) (b := m) (by omega) h1
      omega
  have ht : t = x * m := by
    have : (x * m) * y = t * y := by grind
    exact (Int.eq_of_mul_eq_mul_right (by omega) this).symm
  subst ht
  have hg : (Int.gcd (x * m) (y * m) : Int) = m := by
    rw [Int.gcd_mul_right, h.2.2.2.2]
    omega
  unfold mk
  rw [hg, Int.mul_ediv_cancel _ (by omega), Int.mul_ediv_cancel _ (by omega), if_pos h]
theorem mk_cases (t b : Int) (hb : 0 < b) : mk t b = (0, 0, false) ∨ ∃ x y, FV x y ∧ x * b = t * y ∧ mk t b = (x, y, true) := by
  obtain ⟨x, y, h1, h2, h3, h4, h5⟩ := gcd_parts t b hb
  unfold mk
  rw [h1, h2]
  by_cases h : FV x y
  · right
    refine ⟨x, y, h, ?_, if_pos h⟩
    have e1 : x * b = x * (y * (Int.gcd t b : Int)) := by rw [← h4]
    have e2 : t * y = x * (Int.gcd t b : Int) * y := by rw [← h3]
    rw [e1, e2]; grind
  · left; exact if_neg h
theorem fv_unique {x y x' y' : Int} (h : FV x y) (h' : FV x' y') (e : x * y' = x' * y) : x = x' ∧ y = y' := by
  have hy : 0 < y' := by have := h'.2.2.1; omega
  have h1 := mk_true (t := x') (b := y') hy h e
  have h2 := mk_true (t := x') (b := y') hy h' rfl
  rw [h1] at h2
  simp at h2
  exact h2
theorem fv_neg {x y : Int} (h : FV x y) : FV (-x) y := by
  obtain ⟨h1, h2, h3, h4, h5⟩ := h
  exact ⟨by omega, by omega, h3, h4, by rw [Int.neg_gcd]; exact h5⟩
theorem fv_zero : FV 0 1 := by decide
theorem fv_one : FV 1 1 := by decide

/-! fractions: what the functions compute -/
theorem natAbs_tmod' (a b : Int) : (Int.tmod a b).natAbs = a.natAbs % b.natAbs := Int.natAbs_tmod a b
theorem gcd_step (a b : Int) : Int.gcd b (Int.tmod a b) = Int.gcd a b := by
  unfold Int.gcd
  rw [Int.natAbs_tmod, Nat.gcd_comm a.natAbs, Nat.gcd_comm b.natAbs, Nat.gcd_rec b.natAbs a.natAbs]
theorem mx_abs (a : Int) (h1 : -4611686018427387904 ≤ a) (h2 : a ≤ 4611686018427387904) : mx a (wrap64 (-a)) = (a.natAbs : Int) := by
  rw [w64 (by omega) (by omega)]
  unfold mx
  split <;> omega
theorem gcd_natAbs (a b : Int) : Int.gcd (a.natAbs : Int) b = Int.gcd a b := by
  unfold Int.gcd; simp
/-! sums, products, quotients -/
def noF : Int × Int × Bool := (0, 0, false)
theorem fv_iff {a b : Int} : fv a b = true ↔ FV a b := by unfold fv; exact decide_eq_true_iff
theorem tdiv_gcd (t b : Int) (hb : 0 < b) : Int.tdiv t (Int.gcd t b : Int) = t / (Int.gcd t b : Int) ∧ Int.tdiv b (Int.gcd t b : Int) = b / (Int.gcd t b : Int) := by
  have hg := gcd_pos (t := t) hb
  constructor
  · exact Int.tdiv_eq_ediv_of_dvd (Int.gcd_dvd_left _ _)
  · exact Int.tdiv_eq_ediv_of_dvd (Int.gcd_dvd_right _ _)
theorem div_small (t g : Int) (ht : -4611686018427387904 ≤ t) (ht' : t ≤ 4611686018427387904) (hg : 0 < g) : -4611686018427387904 ≤ t / g ∧ t / g ≤ 4611686018427387904 := by
  rcases Int.lt_or_le t 0 with h | h
  · have h1 : t / g ≤ 0 := by
      have := Int.ediv_neg_of_neg_of_pos h hg
      omega
    have h2 : t ≤ t / g := by
      apply Int.le_ediv_of_mul_le hg
      have h3 : 0 ≤ (-t) * (g - 1) := Int.mul_nonneg (by omega) (by omega)
      have h4 : (-t) * (g - 1) = t - t * g := by grind
      omega
    omega
  · have h1 := Int.ediv_nonneg h (show 0 ≤ g by omega)
    have h2 := Int.ediv_le_self g h
    omega
def addF (a b c d : Int) : Int × Int × Bool := if fv a b = true then (if fv c d = true then mk (a * d + c * b) (b * d) else noF) else noF
def mulF (a b c d : Int) : Int × Int × Bool := if fv a b = true then (if fv c d = true then mk (a * c) (b * d) else noF) else noF
theorem fv_bd {a b c d : Int} (h : FV a b) (h' : FV c d) : -1000000000000000 ≤ a * d ∧ a * d ≤ 1000000000000000 ∧ 0 < b * d ∧ b * d ≤ 1000000000000 ∧ -1000000000000000000 ≤ a * c ∧ a * c ≤ 1000000000000000000 := by
  obtain ⟨h1, h2, h3, h4, _⟩ := h
  obtain ⟨k1, k2, k3, k4, _⟩ := h'
  have p1 := mul_bd a d 1000000000 1000000 (by omega) (by omega) (by omega) (by omega)
  have p2 := mul_bd b d 1000000 1000000 (by omega) (by omega) (by omega) (by omega)
  have p3 := mul_bd a c 1000000000 1000000000 (by omega) (by omega) (by omega) (by omega)
  have p4 : 0 < b * d := Int.mul_pos (by omega) (by omega)
  omega

theorem impl_gcd_l : ∀ (n : Nat) (a b : Int), b.natAbs ≤ n → 0 ≤ a → 0 ≤ b →
    Ev (fun k => impl_divisor.l0 k a b) (Int.gcd a b : Int) := by
  intro n
  induction n with
  | zero =>
    intro a b hn h1 h2
    have hb : b = 0 := by omega
    subst hb
    refine Ev.step (fun k => by rw [impl_divisor.l0]) ?_
    simp only [if_true]
    refine ev_const fun k => ?_
    rw [Int.gcd_zero_right]
    congr 1
    omega
  | succ n ih =>
    intro a b hn h1 h2
    refine Ev.step (fun k => by rw [impl_divisor.l0]) ?_
    by_cases hb : b = 0
    · subst hb
      simp only [if_true]
      refine ev_const fun k => ?_
      rw [Int.gcd_zero_right]
      congr 1
      omega
    · simp only [if_neg hb]
      have hm := tmod_nn a b h1 (by omega)
      have hm' := Int.natAbs_tmod a b
      have hlt : a.natAbs % b.natAbs < b.natAbs := Nat.mod_lt _ (by omega)
      have := ih b (Int.tmod a b) (by omega) h2 (by omega)
      rw [gcd_step] at this
      exact this

theorem impl_fv (a b : Int) : Ev (fun k => impl_FractionValid.f k a b) (fv a b) := by
  unfold impl_FractionValid.f impl_in.f impl_divisor.f fv
  by_cases h1 : a ≥ -1000000000
  · by_cases h2 : a ≤ 1000000000
    · by_cases h3 : b ≥ 1
      · by_cases h4 : b ≤ 1000000
        · simp only [if_pos h1, if_pos h3, decide_eq_true h2, decide_eq_true h4, Option.bind_some, if_true, mx_abs a (by omega) (by omega)]
          refine ev_bind (impl_gcd_l _ _ b (Nat.le_refl _) (by omega) (by omega)) (ev_const fun k => ?_)
          rw [gcd_natAbs]
          congr 1
          rw [Bool.eq_iff_iff]
          simp only [beq_iff_eq, decide_eq_true_eq]
          exact ⟨fun h => ⟨h1, h2, h3, h4, by omega⟩, fun h => by have := h.2.2.2.2; omega⟩
        · simp only [if_pos h1, if_pos h3, decide_eq_true h2, decide_eq_false h4, Option.bind_some, if_true, Bool.false_eq_true, if_false]
          refine ev_const fun k => ?_
          congr 1
          symm; exact decide_eq_false (fun h => by obtain ⟨q1, q2, q3, q4, _⟩ := h; omega)
      · simp only [if_pos h1, if_neg h3, decide_eq_true h2, Option.bind_some, if_true, Bool.false_eq_true, if_false]
        refine ev_const fun k => ?_
        congr 1
        symm; exact decide_eq_false (fun h => by obtain ⟨q1, q2, q3, q4, _⟩ := h; omega)
    · simp only [if_pos h1, decide_eq_false h2, Option.bind_some, Bool.false_eq_true, if_false]
      refine ev_const fun k => ?_
      congr 1
      symm; exact decide_eq_false (fun h => by obtain ⟨q1, q2, q3, q4, _⟩ := h; omega)
  · simp only [if_neg h1, Option.bind_some, Bool.false_eq_true, if_false]
    refine ev_const fun k => ?_
    congr 1
    symm; exact decide_eq_false (fun h => by obtain ⟨q1, q2, q3, q4, _⟩ := h; omega)

theorem impl_mk_j (t b : Int) (ht : -4611686018427387904 ≤ t) (ht' : t ≤ 4611686018427387904) (hb : 0 < b) (hb' : b ≤ 4611686018427387904) : Ev (fun k => impl_reduced.j0 k t b) (mk t b) := by
  refine Ev.step (fun k => by rw [impl_reduced.j0]) ?_
  rw [mx_abs t ht ht']
  have hgg : Ev (fun k => impl_divisor.f k (t.natAbs : Int) b) (Int.gcd t b : Int) := by
    have := impl_gcd_l _ (t.natAbs : Int) b (Nat.le_refl _) (by omega) (by omega)
    rw [gcd_natAbs] at this
    exact this
  refine ev_bind hgg ?_
  have hg := gcd_pos (t := t) hb
  have hd := tdiv_gcd t b hb
  have h1 := div_small t _ ht ht' hg
  have h2 := div_small b _ (by omega) hb' hg
  simp only [if_neg (show ¬ (Int.gcd t b : Int) = 0 by omega), hd.1, hd.2, w64 (n := t / (Int.gcd t b : Int)) (by omega) (by omega), w64 (n := b / (Int.gcd t b : Int)) (by omega) (by omega)]
  refine ev_bind (impl_fv _ _) ?_
  unfold mk
  by_cases h : FV (t / (Int.gcd t b : Int)) (b / (Int.gcd t b : Int))
  · simp only [fv_iff.2 h, if_true, if_pos h]; exact Ev.now _
  · have : fv (t / (Int.gcd t b : Int)) (b / (Int.gcd t b : Int)) = false := by
      rw [Bool.eq_false_iff]; exact fun e => h (fv_iff.1 e)
    simp only [this, Bool.false_eq_true, if_false, if_neg h]; exact Ev.now _
theorem impl_mk (t b : Int) (ht : -4611686018427387904 ≤ t) (ht' : t ≤ 4611686018427387904) (hb : 0 < b) (hb' : b ≤ 4611686018427387904) : Ev (fun k => impl_reduced.f k t b) (mk t b) := by
  unfold impl_reduced.f
  simp only [if_neg (show ¬ b < 0 by omega)]
  exact impl_mk_j t b ht ht' hb hb'
theorem impl_mk_neg (t b : Int) (ht : -4611686018427387904 ≤ t) (ht' : t ≤ 4611686018427387904) (hb : b < 0) (hb' : -4611686018427387904 ≤ b) : Ev (fun k => impl_reduced.f k t b) (mk (-t) (-b)) := by
  unfold impl_reduced.f
  simp only [if_pos hb, w64 (n := -t) (by omega) (by omega), w64 (n := -b) (by omega) (by omega)]
  exact impl_mk_j _ _ (by omega) (by omega) (by omega) (by omega)

theorem impl_mul (a b c d : Int) : Ev (fun k => impl_MulFractions.f k a b c d) (mulF a b c d) := by
  unfold impl_MulFractions.f mulF
  refine ev_bind (impl_fv a b) ?_
  by_cases h1 : fv a b = true
  · simp only [h1, if_true]
    refine ev_bind (impl_fv c d) ?_
    by_cases h2 : fv c d = true
    · simp only [h2, if_true]
      have q := fv_bd (fv_iff.1 h1) (fv_iff.1 h2)
      have q' := fv_bd (fv_iff.1 h2) (fv_iff.1 h1)
      rw [w64 (n := a * c) (by omega) (by omega), w64 (n := b * d) (by omega) (by omega)]
      exact ev_bind (impl_mk _ _ (by omega) (by omega) (by omega) (by omega)) (Ev.now _)
    · simp only [h2]; exact Ev.now _
  · simp only [h1]; exact Ev.now _

def divF (a b c d : Int) : Int × Int × Bool := if fv a b = true then (if fv c d = true then (if c = 0 then noF else if c < 0 then mk (-(a * d)) (-(b * c)) else mk (a * d) (b * c)) else noF) else noF
theorem div_bd {a b c d : Int} (h : FV a b) (h' : FV c d) : -1000000000000000 ≤ a * d ∧ a * d ≤ 1000000000000000 ∧ -1000000000000000 ≤ b * c ∧ b * c ≤ 1000000000000000 ∧ (0 < c → 0 < b * c) ∧ (c < 0 → b * c < 0) := by
  obtain ⟨h1, h2, h3, h4, _⟩ := h
  obtain ⟨k1, k2, k3, k4, _⟩ := h'
  have p1 := mul_bd a d 1000000000 1000000 (by omega) (by omega) (by omega) (by omega)
  have p2 := mul_bd b c 1000000 1000000000 (by omega) (by omega) (by omega) (by omega)
  refine ⟨by omega, by omega, by omega, by omega, fun hc => Int.mul_pos (by omega) hc, fun hc => ?_⟩
  have := Int.mul_pos (a := b) (b := -c) (by omega) (by omega)
  rw [Int.mul_neg] at this; omega

theorem spec_gcd_l : ∀ (n : Nat) (a b : Int), b.natAbs ≤ n → -4611686018427387904 ≤ a → a ≤ 4611686018427387904 → -4611686018427387904 ≤ b → b ≤ 4611686018427387904 →
    Ev (fun k => spec_l2Gcd.l0 k a b) (Int.gcd a b : Int) := by
  intro n
  induction n with
  | zero =>
    intro a b hn h1 h2 _ _
    have hb : b = 0 := by omega
    subst hb
    refine Ev.step (fun k => by rw [spec_l2Gcd.l0]) ?_
    simp only [if_true]
    refine ev_const fun k => ?_
    rw [w64 (by omega) (by omega), Int.gcd_zero_right]
    unfold mx
    congr 1
    split <;> omega
  | succ n ih =>
    intro a b hn h1 h2 h3 h4
    refine Ev.step (fun k => by rw [spec_l2Gcd.l0]) ?_
    by_cases hb : b = 0
    · subst hb
      simp only [if_true]
      refine ev_const fun k => ?_
      rw [w64 (by omega) (by omega), Int.gcd_zero_right]
      unfold mx
      congr 1
      split <;> omega
    · simp only [if_neg hb]
      have hm := Int.natAbs_tmod a b
      have hlt : a.natAbs % b.natAbs < b.natAbs := Nat.mod_lt _ (by omega)
      have hle : a.natAbs % b.natAbs ≤ a.natAbs := Nat.mod_le _ _
      have := ih b (Int.tmod a b) (by omega) h3 h4 (by omega) (by omega)
      rw [gcd_step] at this
      exact this

theorem spec_fv (a b : Int) : Ev (fun k => spec_FractionValid.f k a b) (fv a b) := by
  unfold spec_FractionValid.f spec_l1In.f fv
  by_cases h1 : a ≥ -1000000000
  · by_cases h2 : a ≤ 1000000000
    · by_cases h3 : b ≥ 1
      · by_cases h4 : b ≤ 1000000
        · simp only [if_pos h1, if_pos h3, decide_eq_true h2, decide_eq_true h4, Option.bind_some, if_true]
          refine ev_bind (spec_gcd_l _ a b (Nat.le_refl _) (by omega) (by omega) (by omega) (by omega)) (ev_const fun k => ?_)
          congr 1
          rw [Bool.eq_iff_iff]
          simp only [beq_iff_eq, decide_eq_true_eq]
          exact ⟨fun h => ⟨h1, h2, h3, h4, by omega⟩, fun h => by have := h.2.2.2.2; omega⟩
        · simp only [if_pos h1, if_pos h3, decide_eq_true h2, decide_eq_false h4, Option.bind_some, if_true, Bool.false_eq_true, if_false]
          refine ev_const fun k => ?_
          congr 1
          symm; exact decide_eq_false (fun h => by obtain ⟨q1, q2, q3, q4, _⟩ := h; omega)
      · simp only [if_pos h1, if_neg h3, decide_eq_true h2, Option.bind_some, if_true, Bool.false_eq_true, if_false]
        refine ev_const fun k => ?_
        congr 1
        symm; exact decide_eq_false (fun h => by obtain ⟨q1, q2, q3, q4, _⟩ := h; omega)
    · simp only [if_pos h1, decide_eq_false h2, Option.bind_some, Bool.false_eq_true, if_false]
      refine ev_const fun k => ?_
      congr 1
      symm; exact decide_eq_false (fun h => by obtain ⟨q1, q2, q3, q4, _⟩ := h; omega)
  · simp only [if_neg h1, Option.bind_some, Bool.false_eq_true, if_false]
    refine ev_const fun k => ?_
    congr 1
    symm; exact decide_eq_false (fun h => by obtain ⟨q1, q2, q3, q4, _⟩ := h; omega)

theorem spec_mk (t b : Int) (ht : -4611686018427387904 ≤ t) (ht' : t ≤ 4611686018427387904) (hb : 0 < b) (hb' : b ≤ 4611686018427387904) : Ev (fun k => spec_l2Make.f k t b) (mk t b) := by
  unfold spec_l2Make.f
  refine ev_bind (spec_gcd_l _ t b (Nat.le_refl _) ht ht' (by omega) hb') ?_
  have hg := gcd_pos (t := t) hb
  have hd := tdiv_gcd t b hb
  have h1 := div_small t _ ht ht' hg
  have h2 := div_small b _ (by omega) hb' hg
  simp only [if_neg (show ¬ (Int.gcd t b : Int) = 0 by omega), hd.1, hd.2, w64 (n := t / (Int.gcd t b : Int)) (by omega) (by omega), w64 (n := b / (Int.gcd t b : Int)) (by omega) (by omega)]
  refine ev_bind (spec_fv _ _) ?_
  unfold mk
  by_cases h : FV (t / (Int.gcd t b : Int)) (b / (Int.gcd t b : Int))
  · simp only [fv_iff.2 h, if_true, if_pos h]; exact Ev.now _
  · have : fv (t / (Int.gcd t b : Int)) (b / (Int.gcd t b : Int)) = false := by
      rw [Bool.eq_false_iff]; exact fun e => h (fv_iff.1 e)
    simp only [this, Bool.false_eq_true, if_false, if_neg h]; exact Ev.now _

theorem spec_div (a b c d : Int) : Ev (fun k => spec_DivFractions.f k a b c d) (divF a b c d) := by
  unfold spec_DivFractions.f divF
  have hno : ∀ a b c d, Ev (fun k => spec_DivFractions.j0 k true a b c d) noF := by
    intro a b c d
    refine Ev.step (fun k => by rw [spec_DivFractions.j0]) ?_
    simp only [if_true]; exact Ev.now _
  refine ev_bind (spec_fv a b) ?_
  by_cases h1 : fv a b = true
  · simp only [h1, if_true]
    refine ev_bind (spec_fv c d) ?_
    by_cases h2 : fv c d = true
    · simp only [h2, if_true]
      by_cases hc : c = 0
      · subst hc
        exact hno _ _ _ _
      · have e : (c == 0) = false := by simpa using hc
        simp only [e, if_neg hc]
        have q := div_bd (fv_iff.1 h1) (fv_iff.1 h2)
        refine Ev.step (fun k => by rw [spec_DivFractions.j0]) ?_
        simp only [Bool.false_eq_true, if_false, w64 (n := a * d) (by omega) (by omega), w64 (n := b * c) (by omega) (by omega)]
        by_cases hn : c < 0
        · have := q.2.2.2.2.2 hn
          simp only [if_pos hn, if_pos this, w64 (n := -(a * d)) (by omega) (by omega), w64 (n := -(b * c)) (by omega) (by omega)]
          exact ev_bind (spec_mk _ _ (by omega) (by omega) (by omega) (by omega)) (Ev.now _)
        · have := q.2.2.2.2.1 (by omega)
          simp only [if_neg hn, if_neg (show ¬ b * c < 0 by omega)]
          exact ev_bind (spec_mk _ _ (by omega) (by omega) (by omega) (by omega)) (Ev.now _)
    · simp only [h2]
      exact hno _ _ _ _
  · simp only [h1]
    exact hno _ _ _ _

theorem impl_div (a b c d : Int) : Ev (fun k => impl_DivFractions.f k a b c d) (divF a b c d) := by
  unfold impl_DivFractions.f divF
  refine ev_bind (impl_fv a b) ?_
  by_cases h1 : fv a b = true
  · simp only [h1, if_true]
    refine ev_bind (impl_fv c d) ?_
    by_cases h2 : fv c d = true
    · simp only [h2, if_true]
      by_cases hc : c = 0
      · simp only [if_pos hc]; exact Ev.now _
      · simp only [if_neg hc]
        have q := div_bd (fv_iff.1 h1) (fv_iff.1 h2)
        rw [w64 (n := a * d) (by omega) (by omega), w64 (n := b * c) (by omega) (by omega)]
        by_cases hn : c < 0
        · have := q.2.2.2.2.2 hn
          simp only [if_pos hn]
          exact ev_bind (impl_mk_neg _ _ (by omega) (by omega) (by omega) (by omega)) (Ev.now _)
        · have := q.2.2.2.2.1 (by omega)
          simp only [if_neg hn]
          exact ev_bind (impl_mk _ _ (by omega) (by omega) (by omega) (by omega)) (Ev.now _)
    · simp only [h2]; exact Ev.now _
  · simp only [h1]; exact Ev.now _

/-! the reader that the inputs are drawn from -/
theorem xor_small (a b : Int) (ha : 0 ≤ a) (ha' : a < 4611686018427387904) (hb : 0 ≤ b) (hb' : b < 4611686018427387904) :
    0 ≤ Go.bits .xor .i64 a b ∧ Go.bits .xor .i64 a b < 4611686018427387904 := by
  obtain ⟨m, rfl⟩ := Int.eq_ofNat_of_zero_le ha
  obtain ⟨n, rfl⟩ := Int.eq_ofNat_of_zero_le hb
  have hx : m ^^^ n < 2 ^ 62 := Nat.xor_lt_two_pow (by omega) (by omega)
  have h1 : m % 2 ^ 64 = m := Nat.mod_eq_of_lt (by omega)
  have h2 : n % 2 ^ 64 = n := Nat.mod_eq_of_lt (by omega)
  have e : Go.bits .xor .i64 (m : Int) (n : Int) = ((m ^^^ n : Nat) : Int) := by
    have e1 : (BitVec.ofNat 64 m ^^^ BitVec.ofNat 64 n).toNat = m ^^^ n := by
      rw [BitVec.toNat_xor, BitVec.toNat_ofNat, BitVec.toNat_ofNat, h1, h2]
    show Go.IntKind.i64.wrap (((BitVec.ofInt 64 (m : Int) ^^^ BitVec.ofInt 64 (n : Int)).toNat : Nat) : Int) = _
    rw [BitVec.ofInt_natCast, BitVec.ofInt_natCast, e1, Go.IntKind.wrap_i64]; omega
  rw [e]; omega
/-- what is known of the reader's bytes. -/
def Bys (L : List Int) : Prop := L.length ≤ 2000 ∧ ∀ x ∈ L, 0 ≤ x ∧ x ≤ 255
theorem Bys.rd {L : List Int} (h : Bys L) (i : Int) : 0 ≤ rd L i ∧ rd L i ≤ 255 := by
  unfold Go.Proofs.YtahjhpkaicpioaaW.PrintWords.rd
  rw [List.getD_eq_getElem?_getD]
  rcases Nat.lt_or_ge i.toNat L.length with hl | hl
  · rw [List.getElem?_eq_getElem hl]
    exact h.2 _ (List.getElem_mem hl)
  · rw [List.getElem?_eq_none hl]; simp
theorem pick_ev (L : List Int) (hL : Bys L) (p n : Int) (hp : 0 ≤ p) (hp' : p ≤ 1099511627776) (hn : 1 ≤ n) :
    ∃ v, 0 ≤ v ∧ v < n ∧ Ev (fun k => spec_l20Rd_pick.f k L p n) (v, p + 1) := by
  have hlen := hL.1
  have hp1 : wrap64 (p + 1) = p + 1 := w64 (by omega) (by omega)
  have hp2 : wrap64 (p + 1 - 1) = p := by rw [w64 (by omega) (by omega)]; omega
  by_cases h0 : L.length = 0
  · refine ⟨0, by omega, by omega, ?_⟩
    unfold spec_l20Rd_pick.f
    simp only [if_neg (show ¬ n < 1 by omega), hp1]
    refine Ev.step (fun k => by rw [spec_l20Rd_pick.j0]) ?_
    simp only [show ((L.length : Int) == 0) = true by simpa using h0, if_true]
    exact Ev.now _
  · by_cases hlt : p < (L.length : Int)
    · have hr := hL.rd p
      have ht := tmod_nn (rd L p) n hr.1 (by omega)
      refine ⟨_, ht.1, ht.2.1, ?_⟩
      unfold spec_l20Rd_pick.f
      simp only [if_neg (show ¬ n < 1 by omega), hp1]
      refine Ev.step (fun k => by rw [spec_l20Rd_pick.j0]) ?_
      simp only [show ((L.length : Int) == 0) = false by simpa using h0, Bool.false_eq_true, if_false, hp2, if_pos hlt, if_pos hp, if_neg (show ¬ n = 0 by omega), w64 (n := rd L p) (by omega) (by omega)]
      exact Ev.now _
    · have hpos : (0 : Int) < (L.length : Int) := by omega
      have hi1 := tmod_nn p L.length hp hpos
      have hw7 : wrap64 (wrap64 (p * 7) + 3) = p * 7 + 3 := by rw [w64 (n := p * 7) (by omega) (by omega), w64 (by omega) (by omega)]
      have hi2 := tmod_nn (p * 7 + 3) L.length (by omega) hpos
      have hd := tdiv_nn p L.length hp hpos
      have r1 := hL.rd (Int.tmod p L.length)
      have r2 := hL.rd (Int.tmod (p * 7 + 3) L.length)
      have hX : wrap64 (wrap64 (wrap64 (wrap64 (wrap64 (rd L (Int.tmod p L.length)) * 131) + wrap64 (wrap64 (rd L (Int.tmod (p * 7 + 3) L.length)) * 1117)) + wrap64 (p * 29)) + wrap64 (wrap64 (Int.tdiv p L.length) * 53))
          = rd L (Int.tmod p L.length) * 131 + rd L (Int.tmod (p * 7 + 3) L.length) * 1117 + p * 29 + Int.tdiv p L.length * 53 := by
        generalize rd L (Int.tmod p L.length) = a at *
        generalize rd L (Int.tmod (p * 7 + 3) L.length) = b at *
        generalize Int.tdiv p L.length = c at *
        rw [w64 (n := a) (by omega) (by omega), w64 (n := b) (by omega) (by omega), w64 (n := c) (by omega) (by omega), w64 (n := a * 131) (by omega) (by omega), w64 (n := b * 1117) (by omega) (by omega), w64 (n := p * 29) (by omega) (by omega), w64 (n := c * 53) (by omega) (by omega)]
        rw [w64 (n := a * 131 + b * 1117) (by omega) (by omega), w64 (n := a * 131 + b * 1117 + p * 29) (by omega) (by omega), w64 (by omega) (by omega)]
      have hX0 : 0 ≤ rd L (Int.tmod p L.length) * 131 + rd L (Int.tmod (p * 7 + 3) L.length) * 1117 + p * 29 + Int.tdiv p L.length * 53 := by omega
      have hX1 : rd L (Int.tmod p L.length) * 131 + rd L (Int.tmod (p * 7 + 3) L.length) * 1117 + p * 29 + Int.tdiv p L.length * 53 < 4611686018427387904 := by omega
      generalize hXe : rd L (Int.tmod p L.length) * 131 + rd L (Int.tmod (p * 7 + 3) L.length) * 1117 + p * 29 + Int.tdiv p L.length * 53 = X at *
      have hq := tdiv_nn X 64 hX0 (by omega)
      have hx := xor_small X (Int.tdiv X 64) hX0 hX1 hq.1 (by omega)
      have ht := tmod_nn _ n hx.1 (by omega)
      refine ⟨_, ht.1, ht.2.1, ?_⟩
      unfold spec_l20Rd_pick.f
      simp only [if_neg (show ¬ n < 1 by omega), hp1]
      refine Ev.step (fun k => by rw [spec_l20Rd_pick.j0]) ?_
      simp only [show ((L.length : Int) == 0) = false by simpa using h0, Bool.false_eq_true, if_false, hp2, if_neg hlt, if_neg (show ¬ (L.length : Int) = 0 by omega), if_neg (show ¬ n = 0 by omega),
        if_pos hi1.1, if_pos hi1.2.1, hw7, if_pos hi2.1, if_pos hi2.2.1, hX, w64 (n := Int.tdiv X 64) (by omega) (by omega)]
      exact Ev.now _
theorem odd_ev (L : List Int) (hL : Bys L) (p n : Int) (hp : 0 ≤ p) (hp' : p ≤ 1099511627776) (hn : 0 ≤ n) (hn' : n ≤ 1000000) :
    ∃ b q, p ≤ q ∧ q ≤ p + 1 ∧ Ev (fun k => spec_l20Rd_odd.f k L p n) (b, q) := by
  unfold spec_l20Rd_odd.f
  by_cases h : n > 0
  · obtain ⟨v, h0, h1, hv⟩ := pick_ev L hL p n hp hp' (by omega)
    refine ⟨(v == wrap64 (n - 1)), p + 1, by omega, by omega, ?_⟩
    simp only [if_pos h]
    exact ev_bind hv (Ev.now _)
  · refine ⟨false, p, by omega, by omega, ?_⟩
    simp only [if_neg h]
    exact Ev.now _
theorem open_ev (l : List Int) (hw : ∀ x ∈ l, (Lit.int .u8 x).wf = true) : ∃ L, Bys L ∧ spec_l20Open.f l = some (L, 0) := by
  have hr : ∀ x ∈ l, 0 ≤ x ∧ x ≤ 255 := by
    intro x hx
    have := hw x hx
    simp [Lit.wf, IntKind.min, IntKind.max, IntKind.signed, IntKind.bits] at this
    omega
  unfold spec_l20Open.f
  by_cases h : (l.length : Int) > 2000
  · refine ⟨l.take 2000, ⟨by simp; omega, fun x hx => hr x (List.mem_of_mem_take hx)⟩, ?_⟩
    rw [if_pos h, if_pos (by omega)]
  · refine ⟨l, ⟨by omega, hr⟩, ?_⟩
    rw [if_neg h]

/-- from some number of rounds on the answer is one that P holds of. -/
def EvP {α : Type} (g : Nat → Option α) (P : α → Prop) : Prop := ∃ r, P r ∧ Ev g r
theorem EvP.now {α : Type} {P : α → Prop} {r : α} (h : P r) : EvP (fun _ => some r) P := ⟨r, h, Ev.now r⟩
theorem EvP.bind {α β : Type} {g : Nat → Option α} {f : Nat → α → Option β} {P : α → Prop} {Q : β → Prop} (h : EvP g P) (k : ∀ a, P a → EvP (fun n => f n a) Q) :
    EvP (fun n => (g n).bind (fun x => f n x)) Q := by
  obtain ⟨a, ha, he⟩ := h
  obtain ⟨b, hb, hf⟩ := k a ha
  exact ⟨b, hb, ev_bind he hf⟩
theorem EvP.step {α : Type} {g f : Nat → Option α} {P : α → Prop} (h : ∀ k, g (k + 1) = f k) (k : EvP f P) : EvP g P := by
  obtain ⟨r, hr, he⟩ := k
  exact ⟨r, hr, Ev.step h he⟩
theorem EvP.mono {α : Type} {g : Nat → Option α} {P Q : α → Prop} (h : EvP g P) (k : ∀ r, P r → Q r) : EvP g Q := by
  obtain ⟨r, hr, he⟩ := h
  exact ⟨r, k r hr, he⟩
theorem EvP.of_ev {α : Type} {g : Nat → Option α} {P : α → Prop} {r : α} (h : Ev g r) (hp : P r) : EvP g P := ⟨r, hp, h⟩
theorem pick_p (L : List Int) (hL : Bys L) (p n : Int) (hp : 0 ≤ p) (hp' : p ≤ 1099511627776) (hn : 1 ≤ n) :
    EvP (fun k => spec_l20Rd_pick.f k L p n) (fun r => 0 ≤ r.1 ∧ r.1 < n ∧ r.2 = p + 1) := by
  obtain ⟨v, h0, h1, he⟩ := pick_ev L hL p n hp hp' hn
  exact ⟨_, ⟨h0, h1, rfl⟩, he⟩
theorem odd_p (L : List Int) (hL : Bys L) (p n : Int) (hp : 0 ≤ p) (hp' : p ≤ 1099511627776) (hn : 0 ≤ n) (hn' : n ≤ 1000000) :
    EvP (fun k => spec_l20Rd_odd.f k L p n) (fun r => p ≤ r.2 ∧ r.2 ≤ p + 1) := by
  obtain ⟨b, q, h0, h1, he⟩ := odd_ev L hL p n hp hp' hn hn'
  exact ⟨_, ⟨h0, h1⟩, he⟩
theorem rd_all {P : Int → Prop} (ys : List Int) (h : ∀ y ∈ ys, P y) (i : Int) (h0 : 0 ≤ i) (hi : i < (ys.length : Int)) : P (rd ys i) := by
  unfold Go.Proofs.YtahjhpkaicpioaaW.PrintWords.rd
  have hl : i.toNat < ys.length := by omega
  rw [List.getD_eq_getElem?_getD, List.getElem?_eq_getElem hl]
  exact h _ (List.getElem_mem hl)

theorem fraction_p (L : List Int) (hL : Bys L) (p n : Int) (hp : 0 ≤ p) (hp' : p ≤ 1000000) (hn : 0 ≤ n) (hn' : n ≤ 1000000) :
    EvP (fun k => spec_l20Fraction.f k L p n) (fun r => p ≤ r.2.2 ∧ r.2.2 ≤ p + 9) := by
  unfold spec_l20Fraction.f
  refine EvP.bind (pick_p L hL p 24 hp (by omega) (by omega)) ?_
  rintro ⟨v1, p1⟩ ⟨a1, a2, a3⟩
  simp only at a1 a2 a3 ⊢
  refine EvP.bind (pick_p L hL p1 256 (by omega) (by omega) (by omega)) ?_
  rintro ⟨v2, p2⟩ ⟨b1, b2, b3⟩
  simp only [Option.bind_some] at b1 b2 b3 ⊢
  refine EvP.bind (pick_p L hL p2 6 (by omega) (by omega) (by omega)) ?_
  rintro ⟨v3, p3⟩ ⟨c1, c2, c3⟩
  simp only [List.length_cons, List.length_nil, if_pos c1] at c1 c2 c3 ⊢
  simp only [if_pos (show v3 < ((0 + 1 + 1 + 1 + 1 + 1 + 1 : Nat) : Int) by omega)]
  have k1 := rd_all (P := fun y => 0 ≤ y ∧ y < 4) [0, 0, 0, 1, 2, 3] (by decide) v3 c1 (by simp; omega)
  simp only [if_pos k1.1, if_pos (show rd [0, 0, 0, 1, 2, 3] v3 < ((0 + 1 + 1 + 1 + 1 : Nat) : Int) by omega)]
  have e1 : wrap64 (v1 - 12) = v1 - 12 := w64 (by omega) (by omega)
  have e2 : wrap64 (v2 * 999) = v2 * 999 := w64 (by omega) (by omega)
  simp only [e1, e2]
  have k2 := rd_all (P := fun y => -1000000000 ≤ y ∧ y ≤ 1000000000) [v1 - 12, v2 * 999, 1000000000, -1000000000] (by
    intro y hy
    simp only [List.mem_cons, List.not_mem_nil, or_false] at hy
    rcases hy with rfl | rfl | rfl | rfl <;> omega) _ k1.1 (by simp; omega)
  refine EvP.bind (pick_p L hL p3 9 (by omega) (by omega) (by omega)) ?_
  rintro ⟨v4, p4⟩ ⟨d1, d2, d3⟩
  simp only at d1 d2 d3 ⊢
  refine EvP.bind (pick_p L hL p4 6 (by omega) (by omega) (by omega)) ?_
  rintro ⟨v5, p5⟩ ⟨f1, f2, f3⟩
  simp only at f1 f2 f3
  simp only [if_pos f1, if_pos (show v5 < ((0 + 1 + 1 + 1 + 1 + 1 + 1 : Nat) : Int) by omega)]
  have k3 := rd_all (P := fun y => 1 ≤ y ∧ y ≤ 1000000) [2, 4, 10, 100, 1000, 1000000] (by decide) v5 f1 (by simp; omega)
  refine EvP.bind (pick_p L hL p5 4 (by omega) (by omega) (by omega)) ?_
  rintro ⟨v6, p6⟩ ⟨g1, g2, g3⟩
  simp only at g1 g2 g3
  simp only [if_pos g1, if_pos (show v6 < ((0 + 1 + 1 + 1 + 1 : Nat) : Int) by omega)]
  have e3 : wrap64 (1 + v4) = 1 + v4 := w64 (by omega) (by omega)
  simp only [e3]
  have k4 := rd_all (P := fun y => 1 ≤ y ∧ y ≤ 1000000) [1, 1 + v4, rd [2, 4, 10, 100, 1000, 1000000] v5, 3] (by
    intro y hy
    simp only [List.mem_cons, List.not_mem_nil, or_false] at hy
    rcases hy with rfl | rfl | rfl | rfl <;> omega) _ g1 (by simp; omega)
  refine EvP.bind (P := fun g => 0 < g) (EvP.of_ev (spec_gcd_l _ _ _ (Nat.le_refl _) (by omega) (by omega) (by omega) (by omega)) (gcd_pos (by omega))) ?_
  intro g hg
  simp only [if_neg (show ¬ g = 0 by omega)]
  refine EvP.bind (odd_p L hL p6 n (by omega) (by omega) hn hn') ?_
  rintro ⟨b, p7⟩ ⟨h1, h2⟩
  simp only at h1 h2 ⊢
  cases b with
  | true =>
    simp only [if_true]
    refine EvP.bind (pick_p L hL p7 6 (by omega) (by omega) (by omega)) ?_
    rintro ⟨v8, p8⟩ ⟨i1, i2, i3⟩
    simp only at i1 i2 i3
    simp only [if_pos i1, if_pos (show v8 < ((0 + 1 + 1 + 1 + 1 + 1 + 1 : Nat) : Int) by omega)]
    exact EvP.now (by constructor <;> (simp only; omega))
  | false =>
    simp only [Bool.false_eq_true, if_false]
    exact EvP.now (by constructor <;> (simp only; omega))

theorem drawAdd (l : List Int) (hw : ∀ x ∈ l, (Lit.int .u8 x).wf = true) : EvP (fun k => spec_DrawAddFractions.f k l) (fun _ => True) := by
  obtain ⟨L, hL, hop⟩ := open_ev l hw
  unfold spec_DrawAddFractions.f
  rw [hop]
  simp only [Option.bind_some]
  refine EvP.bind (fraction_p L hL 0 12 (by omega) (by omega) (by omega) (by omega)) ?_
  rintro ⟨t, b, q⟩ ⟨h1, h2⟩
  simp only at h1 h2 ⊢
  refine EvP.bind (fraction_p L hL q 12 (by omega) (by omega) (by omega) (by omega)) ?_
  rintro ⟨t', b', q'⟩ _
  exact EvP.now trivial

theorem addF_comm (a b c d : Int) : addF a b c d = addF c d a b := by
  unfold addF
  by_cases h1 : fv a b = true
  · by_cases h2 : fv c d = true
    · simp only [h1, h2, if_true]
      rw [Int.add_comm, Int.mul_comm b d]
    · simp only [h1, h2, if_true]; simp
  · by_cases h2 : fv c d = true
    · simp only [h1, h2, if_true]; simp
    · simp only [h1, h2]; simp
theorem mulF_comm (a b c d : Int) : mulF a b c d = mulF c d a b := by
  unfold mulF
  by_cases h1 : fv a b = true
  · by_cases h2 : fv c d = true
    · simp only [h1, h2, if_true]
      rw [Int.mul_comm a c, Int.mul_comm b d]
    · simp only [h1, h2, if_true]; simp
  · by_cases h2 : fv c d = true
    · simp only [h1, h2, if_true]; simp
    · simp only [h1, h2]; simp
/-- a sum is nothing, or the fraction with the right cross product. -/
theorem addF_cases (a b c d : Int) : addF a b c d = noF ∨ (FV a b ∧ FV c d ∧ ∃ x y, FV x y ∧ x * (b * d) = (a * d + c * b) * y ∧ addF a b c d = (x, y, true)) := by
  unfold addF
  by_cases h1 : fv a b = true
  · by_cases h2 : fv c d = true
    · simp only [h1, h2, if_true]
      have q := fv_bd (fv_iff.1 h1) (fv_iff.1 h2)
      rcases mk_cases (a * d + c * b) (b * d) q.2.2.1 with h | h
      · exact .inl h
      · exact .inr ⟨fv_iff.1 h1, fv_iff.1 h2, h⟩
    · left; simp only [h1, h2, if_true]; simp
  · left; simp only [h1]; simp
theorem mulF_cases (a b c d : Int) : mulF a b c d = noF ∨ (FV a b ∧ FV c d ∧ ∃ x y, FV x y ∧ x * (b * d) = (a * c) * y ∧ mulF a b c d = (x, y, true)) := by
  unfold mulF
  by_cases h1 : fv a b = true
  · by_cases h2 : fv c d = true
    · simp only [h1, h2, if_true]
      have q := fv_bd (fv_iff.1 h1) (fv_iff.1 h2)
      rcases mk_cases (a * c) (b * d) q.2.2.1 with h | h
      · exact .inl h
      · exact .inr ⟨fv_iff.1 h1, fv_iff.1 h2, h⟩
    · left; simp only [h1, h2, if_true]; simp
  · left; simp only [h1]; simp
theorem addF_is {a b c d x y : Int} (h1 : FV a b) (h2 : FV c d) (h : FV x y) (e : x * (b * d) = (a * d + c * b) * y) : addF a b c d = (x, y, true) := by
  unfold addF
  rw [if_pos (fv_iff.2 h1), if_pos (fv_iff.2 h2)]
  exact mk_true (fv_bd h1 h2).2.2.1 h e
theorem mulF_is {a b c d x y : Int} (h1 : FV a b) (h2 : FV c d) (h : FV x y) (e : x * (b * d) = (a * c) * y) : mulF a b c d = (x, y, true) := by
  unfold mulF
  rw [if_pos (fv_iff.2 h1), if_pos (fv_iff.2 h2)]
  exact mk_true (fv_bd h1 h2).2.2.1 h e
theorem mul_cancel' {a b c : Int} (h : 0 < c) (e : a * c = b * c) : a = b := Int.eq_of_mul_eq_mul_right (by omega) e

theorem divF_cases (a b c d : Int) : divF a b c d = noF ∨ (FV a b ∧ FV c d ∧ c ≠ 0 ∧ ∃ x y, FV x y ∧ x * (b * c) = (a * d) * y ∧ divF a b c d = (x, y, true)) := by
  unfold divF
  by_cases h1 : fv a b = true
  · by_cases h2 : fv c d = true
    · simp only [h1, h2, if_true]
      have q := div_bd (fv_iff.1 h1) (fv_iff.1 h2)
      by_cases hc : c = 0
      · left; rw [if_pos hc]
      · by_cases hn : c < 0
        · rw [if_neg hc, if_pos hn]
          have hb := q.2.2.2.2.2 hn
          rcases mk_cases (-(a * d)) (-(b * c)) (by omega) with h | ⟨x, y, f, e, h⟩
          · exact .inl h
          · refine .inr ⟨fv_iff.1 h1, fv_iff.1 h2, hc, x, y, f, ?_, h⟩
            grind
        · rw [if_neg hc, if_neg hn]
          have hb := q.2.2.2.2.1 (by omega)
          rcases mk_cases (a * d) (b * c) hb with h | h
          · exact .inl h
          · exact .inr ⟨fv_iff.1 h1, fv_iff.1 h2, hc, h⟩
    · left; simp only [h1, h2, if_true]; simp
  · left; simp only [h1]; simp
theorem divF_is {a b c d x y : Int} (h1 : FV a b) (h2 : FV c d) (hc : c ≠ 0) (h : FV x y) (e : x * (b * c) = (a * d) * y) : divF a b c d = (x, y, true) := by
  unfold divF
  have q := div_bd h1 h2
  rw [if_pos (fv_iff.2 h1), if_pos (fv_iff.2 h2), if_neg hc]
  by_cases hn : c < 0
  · have hb := q.2.2.2.2.2 hn
    rw [if_pos hn]
    refine mk_true (by omega) h ?_
    grind
  · have hb := q.2.2.2.2.1 (by omega)
    rw [if_neg hn]
    exact mk_true hb h e
theorem divF_zero (a b d : Int) : (divF a b 0 d) = noF := by
  unfold divF
  by_cases h1 : fv a b = true
  · by_cases h2 : fv 0 d = true
    · simp [h1, h2]
    · simp [h1, h2]
  · simp [h1]

/-! texts: which bytes are plain -/
def okb (x : Int) : Bool := x == 10 || (decide (32 ≤ x) && decide (x ≤ 126))
def tv (l : List Int) : Bool := l.all okb && decide (l.length ≤ 20000)
theorem okb_ten : okb 10 = true := rfl
theorem okb_in (x : Int) (h : ¬ x = 10) : okb x = (decide (32 ≤ x) && decide (x ≤ 126)) := by
  unfold okb; rw [beq_eq_false_iff_ne.mpr h]; rfl

theorem in_eq (x : Int) : impl_in.f x 32 126 = some (decide (32 ≤ x) && decide (x ≤ 126)) := by
  unfold impl_in.f
  by_cases h : x ≥ 32
  · rw [if_pos h, decide_eq_true h]; rfl
  · rw [if_neg h, decide_eq_false h]; rfl
theorem impl_tv_l (s : ByteArray) (hs : s.size ≤ 140737488351232) : ∀ (l : List Int) (i : Nat), (bytesOf s).drop i = l → i ≤ s.size →
    Ev (fun k => impl_TextValid.l0 k s (i : Int)) (l.all okb && decide ((bytesOf s).length ≤ 20000)) := by
  intro l
  induction l with
  | nil =>
    intro i hl hi
    have hn : s.size = i := by
      have := List.drop_eq_nil_iff.1 hl
      rw [bytesOf_length] at this; omega
    refine Ev.step (fun k => by rw [impl_TextValid.l0]) (ev_const fun k => ?_)
    rw [if_neg (by omega), bytesOf_length]; simp; omega
  | cons x l ih =>
    intro i hl hi
    have hlt : i < s.size := by
      rcases Nat.lt_or_ge i s.size with h | h
      · exact h
      · rw [List.drop_eq_nil_iff.2 (by rw [bytesOf_length]; exact h)] at hl; cases hl
    have hd := drop_cons (bytesOf s) i (by rw [bytesOf_length]; exact hlt)
    rw [hd] at hl
    obtain ⟨hx, hl'⟩ := List.cons.inj hl
    have hr := getD_range s i
    have hb := bt_nat s i
    rw [hx] at hb hr
    have h1 := ih (i + 1) hl' (by omega)
    refine Ev.step (fun k => by rw [impl_TextValid.l0]) ?_
    simp only [hb, w64s (show i + 1 < 9223372036854775808 by omega), w64 (n := x) (by omega) (by omega), in_eq, Option.bind_some, show (i : Int) < (s.size : Int) by omega, show (0 : Int) ≤ (i : Int) by omega, if_true]
    by_cases h10 : x = 10
    · subst h10
      simp only [if_true, List.all_cons, okb_ten, Bool.true_and]; exact h1
    · simp only [h10, if_false, List.all_cons, okb_in x h10]
      cases hq : (decide (32 ≤ x) && decide (x ≤ 126))
      · simp; exact Ev.now _
      · simp; simpa using h1
theorem impl_tv (s : ByteArray) (hs : s.size ≤ 140737488351232) : Ev (fun k => impl_TextValid.f k s) (tv (bytesOf s)) := by
  have := impl_tv_l s hs (bytesOf s) 0 rfl (by omega)
  exact this

theorem alive_ev : Ev (fun k => laws_alive.f k) true := by
  unfold laws_alive.f
  refine ev_bind (impl_tv (⟨#[97]⟩ : ByteArray) (by decide)) ?_
  have : tv (bytesOf (⟨#[97]⟩ : ByteArray)) = true := by decide
  rw [this]
  exact Ev.now _

theorem FnDivFractions : laws_FnDivFractions.Pure := by
  intro l _ _ hw
  apply Ev.rounds
  unfold laws_FnDivFractions.f
  by_cases h : (l.length : Int) > 1048576
  · simp only [if_pos h]; exact Ev.now _
  · simp only [if_neg h]
    obtain ⟨⟨a, b, c, d⟩, _, hd⟩ := drawAdd l hw
    have hdm : Ev (fun k => spec_DrawDivFractions.f k l) (a, b, c, d) := by
      unfold spec_DrawDivFractions.f
      exact ev_bind hd (Ev.now _)
    refine ev_bind hdm (ev_bind (impl_div a b c d) (ev_bind (spec_div a b c d) ?_))
    simp only [beq_self_eq_true, Bool.not_true, Bool.or_false, Bool.false_eq_true, if_false, bne_self_eq_false]
    refine Ev.step (fun k => by rw [laws_FnDivFractions.j0]) ?_
    simp only [Bool.false_eq_true, if_false]
    rcases divF_cases a b c d with hn | ⟨f1, f2, hc, x, y, g, e, hx⟩
    · rw [hn]
      simp only [noF, Bool.false_eq_true, if_false, beq_self_eq_true, Bool.and_self, if_true]
      exact ev_bind alive_ev (Ev.now _)
    · rw [hx]
      simp only [if_true]
      refine ev_bind (impl_mul x y c d) (ev_bind (impl_div a b 0 1) (ev_bind (impl_fv x y) ?_))
      rw [mulF_is g f2 f1 (by grind), fv_iff.2 g, divF_zero]
      simp only [if_true, beq_self_eq_true, Bool.and_self, noF, Bool.not_false]
      exact Ev.now _

end Go.Proofs.Ytahjhpkaicpioaa.Pure
namespace Go.Proofs.Ytahjhpkaicpioaa.PrintWords
/-- The word that the printed row names: a slice of whole numbers is no longer than its weight allows. -/
theorem sized_ints {H : Type} {enc : TypeId × Value → H} {P : Program} {W : World} {base : Nat} {spare : Nat → Bool} {held : Bool} {t e : TypeId} {k : IntKind} {a : Option Addr} {len cap : Nat} {d : DataW H} {ps : List MemPlace} {ts : List TypeId} {ds : List (DataW H)} {j : Nat}
    (hsz : (DataW.weightsEach P ts ds).all (· ≤ reachBytes) = true) (ht : ts[j]? = some t) (hd : ds[j]? = some d) (hu : P.underlying t = some (.slice e)) (he : P.underlying e = some (.int k)) (hc : P.cellsOf e = 1) {B : Nat} (hB : P.bytesOf e = B)
    (h : DataW.Trod enc P W base spare held t (.slice a len cap) d ps) : len * B ≤ 140737488351232 :=
  Go.Proofs.YtahjhpkaicpioaaW.PrintWords.sized_ints hsz ht hd hu he hc hB h
end Go.Proofs.Ytahjhpkaicpioaa.PrintWords
