/- The pure statement of the law FnExprDepth holds: for every input that meets the bounds in the statement, the printed function of the law, given enough rounds, answers true. -/
import Derived.Test.YtifeiepociopoaaGreatDoorPEdx22
import Derived.Test.YtifeiepociopoaaGreatDoorV
namespace Go.Proofs.YtifeiepociopoaaGreatDoor.Pure
open Go.RowKit Go.Proofs.YtifeiepociopoaaGreatDoor.PEd Go.Proofs.YtifeiepociopoaaGreatDoorW.PrintWords Go.Proofs.YtifeiepociopoaaGreatDoorW.PrintLast Go.Proofs.YtifeiepociopoaaGreatDoorW.PrintMore Go.Proofs.YtifeiepociopoaaGreatDoor.Hand
set_option linter.unusedVariables false
set_option linter.unusedSimpArgs false

theorem w64 {n : Int} (h0 : -9223372036854775808 ≤ n) (h1 : n < 9223372036854775808) : wrap64 n = n := by
 unfold wrap64; omega
theorem w64n {n : Nat} (h1 : n < 9223372036854775808) : wrap64 (n : Int) = (n : Int) := w64 (by omega) (by omega)
theorem w64s {n : Nat} (h1 : n + 1 < 9223372036854775808) : wrap64 ((n : Int) + 1) = ((n + 1 : Nat) : Int) := by
 rw [w64 (by omega) (by omega)]; rfl
theorem ev_const {α : Type} {g : Nat → Option α} {r : α} (h : ∀ k, g k = some r) : Ev g r := ⟨0, fun k _ => h k⟩
theorem ev_bind {α β : Type} {g : Nat → Option α} {f : Nat → α → Option β} {a : α} {r : β} (h : Ev g a) (k : Ev (fun n => f n a) r) :
  Ev (fun n => (g n).bind (fun x => f n x)) r := Ev.bind h k
theorem bt_nat (s : ByteArray) (i : Nat) : bt s (i : Int) = (bytesOf s).getD i 0 := by
 rw [← rd_bytesOf]; simp [rd]
theorem drop_cons (l : List Int) (i : Nat) (h : i < l.length) : l.drop i = l.getD i 0 :: l.drop (i + 1) := by
 rw [List.drop_eq_getElem_cons h]; simp [List.getD_eq_getElem?_getD, h]
theorem getD_range (s : ByteArray) (i : Nat) : 0 ≤ (bytesOf s).getD i 0 ∧ (bytesOf s).getD i 0 ≤ 255 := by
 rw [← bt_nat]; exact bt_range _ _
theorem map_byte_inj : ∀ (a b : List UInt8), a.map (fun b => (b.toNat : Int)) = b.map (fun b => (b.toNat : Int)) → a = b
 | [], [], _ => rfl
 | [], _ :: _, h => by simp at h
 | _ :: _, [], h => by simp at h
 | x :: a, y :: b, h => by
  simp only [List.map_cons, List.cons.injEq] at h
  have h1 : x = y := UInt8.toNat_inj.1 (by omega)
  rw [h1, map_byte_inj a b h.2]
theorem bytesOf_inj {a b : ByteArray} (h : bytesOf a = bytesOf b) : a = b := by
 have := map_byte_inj _ _ h
 apply ByteArray.ext
 exact Array.toList_inj.1 this
theorem bytesOf_app (a b : ByteArray) : bytesOf (a ++ b) = bytesOf a ++ bytesOf b := by
 unfold bytesOf
 rw [ByteArray.data_append]; simp
theorem bytesOf_cut (s : ByteArray) (i j : Nat) : bytesOf (s.extract i j) = ((bytesOf s).take j).drop i := by
 unfold bytesOf
 rw [ByteArray.data_extract]
 simp [List.drop_take]
theorem bytesOf_str (xs : List Int) (h : ∀ x ∈ xs, 0 ≤ x ∧ x ≤ 255) : bytesOf (strOfNums xs) = xs := by
 unfold bytesOf strOfNums
 simp only [List.map_map]
 conv => rhs; rw [← List.map_id xs]
 apply List.map_congr_left
 intro x hx
 have := h x hx
 have e : x.toNat % 256 = x.toNat := Nat.mod_eq_of_lt (by omega)
 simp only [Function.comp, UInt8.toNat_ofNat', id]
 omega
theorem toList_data (a : ByteArray) : a.toList = a.data.toList := ByteArray.toList_eq a
theorem toList_iff {a b : ByteArray} : a.toList = b.toList ↔ bytesOf a = bytesOf b := by
 constructor
 ·intro h
  unfold bytesOf
  rw [← toList_data, ← toList_data, h]
 ·intro h
  rw [bytesOf_inj h]
theorem size_bytes (s : ByteArray) : s.size = (bytesOf s).length := (bytesOf_length s).symm

def scan : List Nat → Nat → Option (List Nat)
 | l, 0 => some l
 | [], _ + 1 => none
 | m :: l, n + 1 => scan l (n + m)
theorem scan_zero (l : List Nat) : scan l 0 = some l := by cases l <;> rfl
theorem scan_cons (m : Nat) (l : List Nat) (n : Nat) : scan (m :: l) (n + 1) = scan l (n + m) := rfl
theorem scan_add : ∀ (l : List Nat) (a b : Nat), scan l (a + b) = (scan l a).bind (fun r => scan r b)
 | l, 0, b => by rw [Nat.zero_add, scan_zero]; rfl
 | [], a + 1, b => by rw [show a + 1 + b = (a + b) + 1 by omega]; rfl
 | m :: l, a + 1, b => by
  rw [show a + 1 + b = (a + b) + 1 by omega, scan_cons, scan_cons, show a + b + m = (a + m) + b by omega, scan_add l (a + m) b]
theorem scan_suf : ∀ (l : List Nat) (n : Nat) (r : List Nat), scan l n = some r → ∃ t, l = t ++ r ∧ n ≤ t.length
 | l, 0, r, h => by rw [scan_zero] at h; cases h; exact ⟨[], rfl, Nat.le_refl _⟩
 | [], n + 1, r, h => by cases h
 | m :: l, n + 1, r, h => by
  rw [scan_cons] at h
  obtain ⟨t, rfl, ht⟩ := scan_suf l (n + m) r h
  exact ⟨m :: t, rfl, by rw [List.length_cons]; omega⟩
def mL (e : List Nat → Option (List Nat × Nat)) : Nat → List Nat → Option (List Nat × Nat)
 | 0, l => some (l, 0)
 | m + 1, l => (e l).bind fun x => (mL e m x.1).bind fun y => some (y.1, max x.2 y.2)
def mE : Nat → List Nat → Option (List Nat × Nat)
 | 0, _ => none
 | _ + 1, [] => none
 | f + 1, m :: l => (mL (mE f) m l).bind fun x => some (x.1, x.2 + 1)
theorem mL_len {e : List Nat → Option (List Nat × Nat)} (he : ∀ l r d, e l = some (r, d) → r.length < l.length) : ∀ (m : Nat) (l r : List Nat) (d : Nat), mL e m l = some (r, d) → r.length ≤ l.length
 | 0, l, r, d, h => by rw [mL] at h; cases h; exact Nat.le_refl _
 | m + 1, l, r, d, h => by
  rw [mL] at h
  obtain ⟨⟨r1, d1⟩, h1, h⟩ := Option.bind_eq_some_iff.1 h
  obtain ⟨⟨r2, d2⟩, h2, h⟩ := Option.bind_eq_some_iff.1 h
  have q1 : r1.length < l.length := he _ _ _ h1
  have q2 : r2.length ≤ r1.length := mL_len he m _ _ _ h2
  simp only [Option.some.injEq, Prod.mk.injEq] at h
  rw [← h.1]; omega
theorem mE_len : ∀ (f : Nat) (l r : List Nat) (d : Nat), mE f l = some (r, d) → r.length < l.length
 | 0, l, r, d, h => by cases h
 | f + 1, [], r, d, h => by cases h
 | f + 1, m :: l, r, d, h => by
  rw [mE] at h
  obtain ⟨⟨r1, d1⟩, h1, h⟩ := Option.bind_eq_some_iff.1 h
  have q1 : r1.length ≤ l.length := mL_len (mE_len f) m _ _ _ h1
  simp only [Option.some.injEq, Prod.mk.injEq] at h
  rw [List.length_cons, ← h.1]; omega
theorem mL_congr {e e' : List Nat → Option (List Nat × Nat)} (he : ∀ l r d, e l = some (r, d) → r.length < l.length) (n : Nat) (hc : ∀ r, r.length ≤ n → e r = e' r) :
  ∀ (m : Nat) (l : List Nat), l.length ≤ n → mL e m l = mL e' m l
 | 0, l, _ => rfl
 | m + 1, l, hl => by
  rw [mL, mL, ← hc l hl]
  cases h : e l with
  | none => rfl
  | some x =>
   have := he l x.1 x.2 h
   simp only [Option.bind_some]
   rw [mL_congr he n hc m x.1 (by omega)]
theorem mE_fuel : ∀ (f g : Nat) (l : List Nat), l.length ≤ f → l.length ≤ g → mE f l = mE g l
 | 0, 0, _, _, _ => rfl
 | 0, g + 1, [], _, _ => rfl
 | 0, g + 1, _ :: _, h, _ => by rw [List.length_cons] at h; omega
 | f + 1, 0, [], _, _ => rfl
 | f + 1, 0, _ :: _, _, h => by rw [List.length_cons] at h; omega
 | f + 1, g + 1, [], _, _ => rfl
 | f + 1, g + 1, m :: l, h1, h2 => by
  rw [List.length_cons] at h1 h2
  rw [mE, mE, mL_congr (mE_len f) l.length (fun r hr => mE_fuel f g r (by omega) (by omega)) m l (Nat.le_refl _)]
/-- where the expression ends that a list begins with (what is left behind it), and its depth. -/
def me (l : List Nat) : Option (List Nat × Nat) := mE l.length l
theorem me_nil : me [] = none := rfl
theorem me_cons (m : Nat) (l : List Nat) : me (m :: l) = (mL me m l).bind fun x => some (x.1, x.2 + 1) := by
 unfold me
 rw [List.length_cons, mE]
 rw [mL_congr (e := mE l.length) (e' := fun l => mE l.length l) (mE_len _) l.length (fun r hr => mE_fuel _ _ r (by omega) (Nat.le_refl _)) m l (Nat.le_refl _)]
theorem me_len {l r : List Nat} {d : Nat} (h : me l = some (r, d)) : r.length < l.length := mE_len _ _ _ _ h
theorem meL_len {m : Nat} {l r : List Nat} {d : Nat} (h : mL me m l = some (r, d)) : r.length ≤ l.length := mL_len (fun _ _ _ h => me_len h) _ _ _ _ h
/-- the end is where the count of what is wanted comes to nothing. -/
theorem me_scan : ∀ (n : Nat) (l : List Nat), l.length ≤ n → (me l).map (·.1) = scan l 1 ∧ ∀ m, (mL me m l).map (·.1) = scan l m := by
 intro n
 induction n with
 | zero =>
  intro l hl
  have : l = [] := by cases l with | nil => rfl | cons x l => rw [List.length_cons] at hl; omega
  subst this
  refine ⟨rfl, fun m => ?_⟩
  cases m with
  | zero => rfl
  | succ m => rw [mL, me_nil]; rfl
 | succ n ih =>
  intro l hl
  have h1 : (me l).map (·.1) = scan l 1 := by
   cases l with
   | nil => rfl
   | cons m l =>
    rw [List.length_cons] at hl
    rw [me_cons, scan_cons, Nat.zero_add, ← (ih l (by omega)).2 m]
    cases mL me m l <;> rfl
  refine ⟨h1, fun m => ?_⟩
  cases m with
  | zero => rw [scan_zero]; rfl
  | succ m =>
   rw [mL, show m + 1 = 1 + m by omega, scan_add, ← h1]
   cases h : me l with
   | none => rfl
   | some x =>
    have := me_len (r := x.1) (d := x.2) h
    simp only [Option.bind_some, Option.map_some]
    rw [← (ih x.1 (by omega)).2 m]
    cases mL me m x.1 <;> rfl
theorem me_end (l : List Nat) : (me l).map (·.1) = scan l 1 := (me_scan _ l (Nat.le_refl _)).1
theorem me_suf {l r : List Nat} {d : Nat} (h : me l = some (r, d)) : ∃ t, l = t ++ r := by
 have := me_end l
 rw [h] at this
 obtain ⟨t, ht, _⟩ := scan_suf l 1 r this.symm
 exact ⟨t, ht⟩
theorem meL_suf {m : Nat} {l r : List Nat} {d : Nat} (h : mL me m l = some (r, d)) : ∃ t, l = t ++ r := by
 have := (me_scan _ l (Nat.le_refl _)).2 m
 rw [h] at this
 obtain ⟨t, ht, _⟩ := scan_suf l m r this.symm
 exact ⟨t, ht⟩
/-- an expression is the same whatever stands behind it. -/
theorem me_loc : ∀ (n : Nat) (t r y : List Nat) (d : Nat), t.length ≤ n → me (t ++ r) = some (r, d) → me (t ++ y) = some (y, d) := by
 intro n
 induction n with
 | zero =>
  intro t r y d ht h
  have : t = [] := by cases t with | nil => rfl | cons x l => rw [List.length_cons] at ht; omega
  subst this
  have := me_len h
  simp at this
 | succ n ih =>
  intro t r y d ht h
  cases t with
  | nil => have := me_len h; simp at this
  | cons m t =>
   rw [List.length_cons] at ht
   rw [List.cons_append, me_cons] at h ⊢
   have key : ∀ (m : Nat) (t : List Nat) (d : Nat), t.length ≤ n → mL me m (t ++ r) = some (r, d) → mL me m (t ++ y) = some (y, d) := by
    intro m
    induction m with
    | zero =>
     intro t d _ h
     rw [mL] at h ⊢
     simp only [Option.some.injEq, Prod.mk.injEq] at h ⊢
     have e : t = [] := List.append_cancel_right (h.1.trans (List.nil_append r).symm)
     subst e
     exact ⟨rfl, h.2⟩
    | succ m im =>
     intro t d htn h
     rw [mL] at h
     obtain ⟨⟨r1, d1⟩, h1, h⟩ := Option.bind_eq_some_iff.1 h
     obtain ⟨⟨r2, d2⟩, h2, h⟩ := Option.bind_eq_some_iff.1 h
     simp only at h2
     simp only [Option.some.injEq, Prod.mk.injEq] at h
     obtain ⟨rfl, rfl⟩ := h
     obtain ⟨t1, ht1⟩ := me_suf h1
     obtain ⟨t2, ht2⟩ := meL_suf h2
     have e : t = t1 ++ t2 := by
      rw [ht2, ← List.append_assoc] at ht1
      exact List.append_cancel_right ht1
     subst e
     rw [List.length_append] at htn
     rw [mL, List.append_assoc]
     have h1' : me (t1 ++ r1) = some (r1, d1) := by rw [← ht1]; exact h1
     rw [ih t1 r1 (t2 ++ y) d1 (by omega) h1', Option.bind_some]
     simp only
     rw [im t2 d2 (by omega) (by rw [← ht2]; exact h2)]; rfl
   obtain ⟨⟨r1, d1⟩, h1, h⟩ := Option.bind_eq_some_iff.1 h
   simp only [Option.some.injEq, Prod.mk.injEq] at h
   obtain ⟨rfl, rfl⟩ := h
   rw [key m t d1 (by omega) h1]; rfl
theorem me_take {l r : List Nat} {d : Nat} (h : me l = some (r, d)) : me (l.take (l.length - r.length)) = some ([], d) := by
 obtain ⟨t, rfl⟩ := me_suf h
 rw [show (t ++ r).length - r.length = t.length by rw [List.length_append]; omega, List.take_left']
 ·have := me_loc t.length t r [] d (Nat.le_refl _) h
  rwa [List.append_nil] at this
 ·rfl
/-- every place inside an expression begins one that is no deeper. -/
theorem me_sub : ∀ (n : Nat) (l r : List Nat) (D p : Nat), l.length ≤ n → me l = some (r, D) → p < l.length - r.length → ∃ r' d', me (l.drop p) = some (r', d') ∧ d' ≤ D ∧ r.length ≤ r'.length := by
 intro n
 induction n with
 | zero => intro l r D p hl h hp; omega
 | succ n ih =>
  intro l r D p hl h hp
  cases p with
  | zero => exact ⟨r, D, h, Nat.le_refl _, Nat.le_refl _⟩
  | succ p =>
   cases l with
   | nil => rw [me_nil] at h; cases h
   | cons m l =>
    rw [List.length_cons] at hl hp
    rw [me_cons] at h
    obtain ⟨⟨r1, d1⟩, h1, h⟩ := Option.bind_eq_some_iff.1 h
    simp only [Option.some.injEq, Prod.mk.injEq] at h
    obtain ⟨rfl, rfl⟩ := h
    rw [List.drop_succ_cons]
    have key : ∀ (m : Nat) (l : List Nat) (d p : Nat), l.length ≤ n → mL me m l = some (r1, d) → p < l.length - r1.length → ∃ r' d', me (l.drop p) = some (r', d') ∧ d' ≤ d ∧ r1.length ≤ r'.length := by
     intro m
     induction m with
     | zero =>
      intro l d p _ h hp
      rw [mL] at h
      simp only [Option.some.injEq, Prod.mk.injEq] at h
      obtain ⟨rfl, rfl⟩ := h
      omega
     | succ m im =>
      intro l d p hln h hp
      rw [mL] at h
      obtain ⟨⟨r2, d2⟩, h2, h⟩ := Option.bind_eq_some_iff.1 h
      obtain ⟨⟨r3, d3⟩, h3, h⟩ := Option.bind_eq_some_iff.1 h
      simp only at h3
      simp only [Option.some.injEq, Prod.mk.injEq] at h
      obtain ⟨rfl, rfl⟩ := h
      have q1 := me_len h2
      have q2 := meL_len h3
      by_cases hpp : p < l.length - r2.length
      ·obtain ⟨r', d', e1, e2, e3⟩ := ih l r2 d2 p hln h2 hpp
       exact ⟨r', d', e1, Nat.le_trans e2 (Nat.le_max_left _ _), by omega⟩
      ·obtain ⟨t, ht⟩ := me_suf h2
       have hd : l.drop p = r2.drop (p - (l.length - r2.length)) := by
        have hlt : l.length - r2.length = t.length := by rw [ht, List.length_append]; omega
        rw [hlt, ht, List.drop_append]
        rw [List.drop_eq_nil_of_le (by omega), List.nil_append]
       obtain ⟨r', d', e1, e2, e3⟩ := im r2 d3 (p - (l.length - r2.length)) (by omega) h3 (by omega)
       exact ⟨r', d', by rw [hd]; exact e1, Nat.le_trans e2 (Nat.le_max_right _ _), e3⟩
    obtain ⟨r', d', e1, e2, e3⟩ := key m l d1 p (by omega) h1 (by omega)
    exact ⟨r', d', e1, by omega, e3⟩

theorem tmod_nn (a b : Int) (ha : 0 ≤ a) (hb : 0 < b) : 0 ≤ Int.tmod a b ∧ Int.tmod a b < b ∧ Int.tmod a b ≤ a := by
 rw [Int.tmod_eq_emod_of_nonneg ha]
 refine ⟨Int.emod_nonneg _ (by omega), Int.emod_lt_of_pos _ hb, ?_⟩
 have := Int.emod_add_mul_ediv a b
 have h2 : 0 ≤ a / b := Int.ediv_nonneg ha (by omega)
 have h3 : 0 ≤ b * (a / b) := Int.mul_nonneg (by omega) h2
 omega
theorem tdiv_nn (a b : Int) (ha : 0 ≤ a) (hb : 0 < b) : 0 ≤ Int.tdiv a b ∧ Int.tdiv a b ≤ a := by
 rw [Int.tdiv_eq_ediv_of_nonneg ha]
 exact ⟨Int.ediv_nonneg ha (by omega), Int.ediv_le_self _ ha⟩

theorem xor_small (a b : Int) (ha : 0 ≤ a) (ha' : a < 4611686018427387904) (hb : 0 ≤ b) (hb' : b < 4611686018427387904) :
  0 ≤ Go.bits .xor .i64 a b ∧ Go.bits .xor .i64 a b < 4611686018427387904 := by
 obtain ⟨m, rfl⟩ := Int.eq_ofNat_of_zero_le ha
 obtain ⟨n, rfl⟩ := Int.eq_ofNat_of_zero_le hb
 have hx : m ^^^ n < 2 ^ 62 := Nat.xor_lt_two_pow (by omega) (by omega)
 have h1 : m % 2 ^ 64 = m := Nat.mod_eq_of_lt (by omega)
 have h2 : n % 2 ^ 64 = n := Nat.mod_eq_of_lt (by omega)
 have e : Go.bits .xor .i64 (m : Int) (n : Int) = ((m ^^^ n : Nat) : Int) := by
  have e1 : (BitVec.ofNat 64 m ^^^ BitVec.ofNat 64 n).toNat = m ^^^ n := by
   rw [BitVec.toNat_xor, BitVec.toNat_ofNat, BitVec.toNat_ofNat, h1, h2]
  show Go.IntKind.i64.wrap (((BitVec.ofInt 64 (m : Int) ^^^ BitVec.ofInt 64 (n : Int)).toNat : Nat) : Int) = _
  rw [BitVec.ofInt_natCast, BitVec.ofInt_natCast, e1, Go.IntKind.wrap_i64]; omega
 rw [e]; omega
/-- what is known of the reader's bytes. -/
def Bys (L : List Int) : Prop := L.length ≤ 2000 ∧ ∀ x ∈ L, 0 ≤ x ∧ x ≤ 255
theorem Bys.rd {L : List Int} (h : Bys L) (i : Int) : 0 ≤ rd L i ∧ rd L i ≤ 255 := by
 unfold Go.Proofs.YtifeiepociopoaaGreatDoorW.PrintWords.rd
 rw [List.getD_eq_getElem?_getD]
 rcases Nat.lt_or_ge i.toNat L.length with hl | hl
 ·rw [List.getElem?_eq_getElem hl]
  exact h.2 _ (List.getElem_mem hl)
 ·rw [List.getElem?_eq_none hl]; simp
theorem pick_ev (L : List Int) (hL : Bys L) (p n : Int) (hp : 0 ≤ p) (hp' : p ≤ 1099511627776) (hn : 1 ≤ n) :
  ∃ v, 0 ≤ v ∧ v < n ∧ Ev (fun k => spec_l20Rd_pick.f k L p n) (v, p + 1) := by
 have hlen := hL.1
 have hp1 : wrap64 (p + 1) = p + 1 := w64 (by omega) (by omega)
 have hp2 : wrap64 (p + 1 - 1) = p := by rw [w64 (by omega) (by omega)]; omega
 by_cases h0 : L.length = 0
 ·refine ⟨0, by omega, by omega, ?_⟩
  unfold spec_l20Rd_pick.f
  simp only [if_neg (show ¬ n < 1 by omega), hp1]
  refine Ev.step (fun k => by rw [spec_l20Rd_pick.j0]) ?_
  simp only [show ((L.length : Int) == 0) = true by simpa using h0, if_true]
  exact Ev.now _
 ·by_cases hlt : p < (L.length : Int)
  ·have hr := hL.rd p
   have ht := tmod_nn (rd L p) n hr.1 (by omega)
   refine ⟨_, ht.1, ht.2.1, ?_⟩
   unfold spec_l20Rd_pick.f
   simp only [if_neg (show ¬ n < 1 by omega), hp1]
   refine Ev.step (fun k => by rw [spec_l20Rd_pick.j0]) ?_
   simp only [show ((L.length : Int) == 0) = false by simpa using h0, Bool.false_eq_true, if_false, hp2, if_pos hlt, if_pos hp, if_neg (show ¬ n = 0 by omega), w64 (n := rd L p) (by omega) (by omega)]
   exact Ev.now _
  ·have hpos : (0 : Int) < (L.length : Int) := by omega
   have hi1 := tmod_nn p L.length hp hpos
   have hw7 : wrap64 (wrap64 (p * 7) + 3) = p * 7 + 3 := by rw [w64 (n := p * 7) (by omega) (by omega), w64 (by omega) (by omega)]
   have hi2 := tmod_nn (p * 7 + 3) L.length (by omega) hpos
   have hd := tdiv_nn p L.length hp hpos
   have r1 := hL.rd (Int.tmod p L.length)
   have r2 := hL.rd (Int.tmod (p * 7 + 3) L.length)
   have hX : wrap64 (wrap64 (wrap64 (wrap64 (wrap64 (rd L (Int.tmod p L.length)) * 131) + wrap64 (wrap64 (rd L (Int.tmod (p * 7 + 3) L.length)) * 1117)) + wrap64 (p * 29)) + wrap64 (wrap64 (Int.tdiv p L.length) * 53))
     = rd L (Int.tmod p L.length) * 131 + rd L (Int.tmod (p * 7 + 3) L.length) * 1117 + p * 29 + Int.tdiv p L.length * 53 := by
    generalize rd L (Int.tmod p L.length) = a at *
    generalize rd L (Int.tmod (p * 7 + 3) L.length) = b at *
    generalize Int.tdiv p L.length = c at *
    rw [w64 (n := a) (by omega) (by omega), w64 (n := b) (by omega) (by omega), w64 (n := c) (by omega) (by omega), w64 (n := a * 131) (by omega) (by omega), w64 (n := b * 1117) (by omega) (by omega), w64 (n := p * 29) (by omega) (by omega), w64 (n := c * 53) (by omega) (by omega)]
    rw [w64 (n := a * 131 + b * 1117) (by omega) (by omega), w64 (n := a * 131 + b * 1117 + p * 29) (by omega) (by omega), w64 (by omega) (by omega)]
   have hX0 : 0 ≤ rd L (Int.tmod p L.length) * 131 + rd L (Int.tmod (p * 7 + 3) L.length) * 1117 + p * 29 + Int.tdiv p L.length * 53 := by omega
   have hX1 : rd L (Int.tmod p L.length) * 131 + rd L (Int.tmod (p * 7 + 3) L.length) * 1117 + p * 29 + Int.tdiv p L.length * 53 < 4611686018427387904 := by omega
   generalize hXe : rd L (Int.tmod p L.length) * 131 + rd L (Int.tmod (p * 7 + 3) L.length) * 1117 + p * 29 + Int.tdiv p L.length * 53 = X at *
   have hq := tdiv_nn X 64 hX0 (by omega)
   have hx := xor_small X (Int.tdiv X 64) hX0 hX1 hq.1 (by omega)
   have ht := tmod_nn _ n hx.1 (by omega)
   refine ⟨_, ht.1, ht.2.1, ?_⟩
   unfold spec_l20Rd_pick.f
   simp only [if_neg (show ¬ n < 1 by omega), hp1]
   refine Ev.step (fun k => by rw [spec_l20Rd_pick.j0]) ?_
   simp only [show ((L.length : Int) == 0) = false by simpa using h0, Bool.false_eq_true, if_false, hp2, if_neg hlt, if_neg (show ¬ (L.length : Int) = 0 by omega), if_neg (show ¬ n = 0 by omega),
    if_pos hi1.1, if_pos hi1.2.1, hw7, if_pos hi2.1, if_pos hi2.2.1, hX, w64 (n := Int.tdiv X 64) (by omega) (by omega)]
   exact Ev.now _
theorem odd_ev (L : List Int) (hL : Bys L) (p n : Int) (hp : 0 ≤ p) (hp' : p ≤ 1099511627776) (hn : 0 ≤ n) (hn' : n ≤ 1000000) :
  ∃ b q, p ≤ q ∧ q ≤ p + 1 ∧ Ev (fun k => spec_l20Rd_odd.f k L p n) (b, q) := by
 unfold spec_l20Rd_odd.f
 by_cases h : n > 0
 ·obtain ⟨v, h0, h1, hv⟩ := pick_ev L hL p n hp hp' (by omega)
  refine ⟨(v == wrap64 (n - 1)), p + 1, by omega, by omega, ?_⟩
  simp only [if_pos h]
  exact ev_bind hv (Ev.now _)
 ·refine ⟨false, p, by omega, by omega, ?_⟩
  simp only [if_neg h]
  exact Ev.now _
theorem open_ev (l : List Int) (hw : ∀ x ∈ l, (Lit.int .u8 x).wf = true) : ∃ L, Bys L ∧ spec_l20Open.f l = some (L, 0) := by
 have hr : ∀ x ∈ l, 0 ≤ x ∧ x ≤ 255 := by
  intro x hx
  have := hw x hx
  simp [Lit.wf, IntKind.min, IntKind.max, IntKind.signed, IntKind.bits] at this
  omega
 unfold spec_l20Open.f
 by_cases h : (l.length : Int) > 2000
 ·refine ⟨l.take 2000, ⟨by simp; omega, fun x hx => hr x (List.mem_of_mem_take hx)⟩, ?_⟩
  rw [if_pos h, if_pos (by omega)]
 ·refine ⟨l, ⟨by omega, hr⟩, ?_⟩
  rw [if_neg h]

/-- from some number of rounds on the answer is one that P holds of. -/
def EvP {α : Type} (g : Nat → Option α) (P : α → Prop) : Prop := ∃ r, P r ∧ Ev g r
theorem EvP.now {α : Type} {P : α → Prop} {r : α} (h : P r) : EvP (fun _ => some r) P := ⟨r, h, Ev.now r⟩
theorem EvP.bind {α β : Type} {g : Nat → Option α} {f : Nat → α → Option β} {P : α → Prop} {Q : β → Prop} (h : EvP g P) (k : ∀ a, P a → EvP (fun n => f n a) Q) :
  EvP (fun n => (g n).bind (fun x => f n x)) Q := by
 obtain ⟨a, ha, he⟩ := h
 obtain ⟨b, hb, hf⟩ := k a ha
 exact ⟨b, hb, ev_bind he hf⟩
theorem EvP.step {α : Type} {g f : Nat → Option α} {P : α → Prop} (h : ∀ k, g (k + 1) = f k) (k : EvP f P) : EvP g P := by
 obtain ⟨r, hr, he⟩ := k
 exact ⟨r, hr, Ev.step h he⟩
theorem EvP.mono {α : Type} {g : Nat → Option α} {P Q : α → Prop} (h : EvP g P) (k : ∀ r, P r → Q r) : EvP g Q := by
 obtain ⟨r, hr, he⟩ := h
 exact ⟨r, k r hr, he⟩
theorem pick_p (L : List Int) (hL : Bys L) (p n : Int) (hp : 0 ≤ p) (hp' : p ≤ 1099511627776) (hn : 1 ≤ n) :
  EvP (fun k => spec_l20Rd_pick.f k L p n) (fun r => 0 ≤ r.1 ∧ r.1 < n ∧ r.2 = p + 1) := by
 obtain ⟨v, h0, h1, he⟩ := pick_ev L hL p n hp hp' hn
 exact ⟨_, ⟨h0, h1, rfl⟩, he⟩
theorem odd_p (L : List Int) (hL : Bys L) (p n : Int) (hp : 0 ≤ p) (hp' : p ≤ 1099511627776) (hn : 0 ≤ n) (hn' : n ≤ 1000000) :
  EvP (fun k => spec_l20Rd_odd.f k L p n) (fun r => p ≤ r.2 ∧ r.2 ≤ p + 1) := by
 obtain ⟨b, q, h0, h1, he⟩ := odd_ev L hL p n hp hp' hn hn'
 exact ⟨_, ⟨h0, h1⟩, he⟩
theorem rd_all {P : Int → Prop} (ys : List Int) (h : ∀ y ∈ ys, P y) (i : Int) (h0 : 0 ≤ i) (hi : i < (ys.length : Int)) : P (rd ys i) := by
 unfold Go.Proofs.YtifeiepociopoaaGreatDoorW.PrintWords.rd
 have hl : i.toNat < ys.length := by omega
 rw [List.getD_eq_getElem?_getD, List.getElem?_eq_getElem hl]
 exact h _ (List.getElem_mem hl)

theorem rdOf_nat {α : Type} (d : α) (l : List α) (j : Nat) : rdOf d l (j : Int) = l.getD j d := by unfold rdOf; rw [Int.toNat_natCast]

def AllC (m : Nat) (ys : List S35) : Prop := ∀ c ∈ ys, c.f1.size ≤ m
theorem AllC.one {m : Nat} {c : S35} (h : c.f1.size ≤ m) : AllC m [c] := fun x hx => by rw [List.mem_singleton] at hx; rw [hx]; exact h
theorem AllC.app {m : Nat} {xs ys : List S35} (h : AllC m xs) (h' : AllC m ys) : AllC m (xs ++ ys) := fun x hx => by
 rcases List.mem_append.1 hx with e | e
 ·exact h x e
 ·exact h' x e
theorem rdC_all {P : S35 → Prop} {ys : List S35} (h : ∀ c ∈ ys, P c) (i : Int) (h0 : 0 ≤ i) (hi : i < (ys.length : Int)) : P (rd_T35 ys i) := by
 unfold rd_T35
 have hl : i.toNat < ys.length := by omega
 rw [List.getD_eq_getElem?_getD, List.getElem?_eq_getElem hl]
 exact h _ (List.getElem_mem hl)
theorem AllC.set {m : Nat} {ys : List S35} (h : AllC m ys) (i : Nat) {c : S35} (hc : c.f1.size ≤ m) : AllC m (ys.set i c) := fun x hx => by
 rcases List.mem_or_eq_of_mem_set hx with e | e
 ·exact h x e
 ·rw [e]; exact hc
def AllS (m : Nat) (ys : List ByteArray) : Prop := ∀ y ∈ ys, y.size ≤ m
theorem rdS_all {m : Nat} {ys : List ByteArray} (h : AllS m ys) (i : Int) (h0 : 0 ≤ i) (hi : i < (ys.length : Int)) : (rdOf ByteArray.empty ys i).size ≤ m := by
 obtain ⟨j, rfl⟩ := Int.eq_ofNat_of_zero_le h0
 rw [rdOf_nat, List.getD_eq_getElem?_getD, List.getElem?_eq_getElem (by omega)]
 exact h _ (List.getElem_mem _)
theorem odd_zero (k : Nat) (L : List Int) (p : Int) : spec_l20Rd_odd.f k L p 0 = some (false, p) := by
 unfold spec_l20Rd_odd.f
 simp only [if_neg (show ¬ (0 : Int) > 0 by omega)]
theorem name0_p (L : List Int) (hL : Bys L) (p : Int) (hp : 0 ≤ p) (hp' : p ≤ 10000000) :
  EvP (fun k => spec_l20Name.f k L p 0) (fun r => r.1.size ≤ 12 ∧ p ≤ r.2 ∧ r.2 ≤ p + 1) := by
 unfold spec_l20Name.f
 simp only [odd_zero, Option.bind_some, Bool.false_eq_true, if_false]
 refine EvP.bind (pick_p L hL p 13 hp (by omega) (by omega)) ?_
 rintro ⟨v, p1⟩ ⟨a1, a2, a3⟩
 simp only at a1 a2 a3
 have k1 := rd_all (P := fun y => 0 ≤ y ∧ y < 10) [0, 0, 1, 1, 2, 2, 3, 4, 5, 6, 7, 8, 9] (by decide) v a1 (by simp; omega)
 simp only [if_pos a1, List.length_cons, List.length_nil]
 simp only [if_pos (show v < ((0 + 1 + 1 + 1 + 1 + 1 + 1 + 1 + 1 + 1 + 1 + 1 + 1 + 1 : Nat) : Int) by omega), if_pos k1.1]
 generalize rd [0, 0, 1, 1, 2, 2, 3, 4, 5, 6, 7, 8, 9] v = u at k1
 simp only [if_pos (show u < ((0 + 1 + 1 + 1 + 1 + 1 + 1 + 1 + 1 + 1 + 1 : Nat) : Int) by omega)]
 exact EvP.now ⟨rdS_all (m := 12) (by unfold AllS; decide) u k1.1 (by simp; omega), by simp only; omega, by simp only; omega⟩
def cN : Nat → Nat
 | 0 => 1
 | d + 1 => 1 + 3 * cN d
def cM : Nat → Nat
 | 0 => 8
 | d + 1 => 8 + 3 * cM d
def CellsOk (d : Nat) (p : Int) (r : List S35 × Int) : Prop := 1 ≤ r.1.length ∧ r.1.length ≤ cN d ∧ AllC 60 r.1 ∧ p ≤ r.2 ∧ r.2 ≤ p + (cM d : Int)
theorem cN_pos : ∀ d : Nat, 1 ≤ cN d
 | 0 => Nat.le_refl _
 | d + 1 => by rw [cN]; omega
theorem leaf (L : List Int) (hL : Bys L) (a : Int) (x5 : Int) (h1 : 1 ≤ x5) (h4 : x5 ≤ 4) (p : Int) (hp : 0 ≤ p) (hp' : p ≤ 1000000) :
  EvP (fun k => spec_l20Cells.j0 k a x5 L p) (fun r => r.1.length = 1 ∧ AllC 60 r.1 ∧ p ≤ r.2 ∧ r.2 ≤ p + 1) := by
 refine EvP.step (fun k => by rw [spec_l20Cells.j0]) ?_
 by_cases e1 : x5 = 1
 ·simp only [if_pos e1, Option.bind_some]
  refine EvP.bind (pick_p L hL p 6 hp (by omega) (by omega)) ?_
  rintro ⟨v, p1⟩ ⟨a1, a2, a3⟩
  simp only at a1 a2 a3
  simp only [if_pos a1, List.length_cons, List.length_nil]
  simp only [if_pos (show v < ((0 + 1 + 1 + 1 + 1 + 1 + 1 : Nat) : Int) by omega)]
  refine EvP.now ⟨rfl, AllC.one ?_, by simp only; omega, by simp only; omega⟩
  exact rdS_all (m := 60) (by unfold AllS; decide) v a1 (by simp; omega)
 ·simp only [if_neg e1]
  by_cases e2 : x5 = 2
  ·simp only [if_pos e2, Option.bind_some]
   refine EvP.bind (pick_p L hL p 6 hp (by omega) (by omega)) ?_
   rintro ⟨v, p1⟩ ⟨a1, a2, a3⟩
   simp only at a1 a2 a3
   simp only [if_pos a1, List.length_cons, List.length_nil]
   simp only [if_pos (show v < ((0 + 1 + 1 + 1 + 1 + 1 + 1 : Nat) : Int) by omega)]
   refine EvP.now ⟨rfl, AllC.one ?_, by simp only; omega, by simp only; omega⟩
   exact rdS_all (m := 60) (by unfold AllS; decide) v a1 (by simp; omega)
  ·simp only [if_neg e2]
   by_cases e3 : x5 = 3
   ·simp only [if_pos e3, Option.bind_some]
    refine EvP.bind (pick_p L hL p 2 hp (by omega) (by omega)) ?_
    rintro ⟨v, p1⟩ ⟨a1, a2, a3⟩
    simp only at a1 a2 a3
    simp only [if_pos a1, List.length_cons, List.length_nil]
    simp only [if_pos (show v < ((0 + 1 + 1 : Nat) : Int) by omega)]
    refine EvP.now ⟨rfl, AllC.one ?_, by simp only; omega, by simp only; omega⟩
    exact rdS_all (m := 60) (by unfold AllS; decide) v a1 (by simp; omega)
   ·simp only [if_neg e3, if_pos (show x5 = 4 by omega)]
    refine EvP.bind (name0_p L hL p hp (by omega)) ?_
    rintro ⟨s, p1⟩ ⟨a1, a2, a3⟩
    simp only at a1 a2 a3
    exact EvP.now ⟨rfl, AllC.one (by simp only; omega), by simp only; omega, by simp only; omega⟩
/-- the parts behind a cell. -/
theorem kids (L : List Int) (hL : Bys L) (d : Nat) (a : Int) (ha : wrap64 (a - 1) = (d : Int)) (hd : d ≤ 4)
  (B : Int) (hB : B ≤ 600000) (ih : ∀ p : Int, 0 ≤ p → p ≤ B → EvP (fun k => spec_l20Cells.f k L p (d : Int)) (CellsOk d p)) (m : Nat) (hm : m ≤ 3) : ∀ (j i : Nat) (xs : List S35) (p : Int), i + j = m → 0 ≤ p → p + (j * cM d : Nat) ≤ B → 1 ≤ xs.length → xs.length + j * 200 ≤ 1000 → AllC 60 xs →
  EvP (fun k => spec_l20Cells.l0 k a (m : Int) xs (i : Int) L p) (fun r => 1 ≤ r.1.length ∧ r.1.length ≤ xs.length + j * cN d ∧ AllC 60 r.1 ∧ p ≤ r.2 ∧ r.2 ≤ p + (j * cM d : Nat)) := by
 have hcn : cN d ≤ 200 := by
  have : ∀ d, d ≤ 4 → cN d ≤ 200 := by decide
  exact this d hd
 intro j
 induction j with
 | zero =>
  intro i xs p hi hp hp' hx hx' hA
  refine EvP.step (fun k => by rw [spec_l20Cells.l0]) ?_
  simp only [if_neg (show ¬ (i : Int) < (m : Int) by omega)]
  exact EvP.now ⟨hx, by simp only; omega, hA, Int.le_refl _, by simp only; omega⟩
 | succ j ihj =>
  intro i xs p hi hp hp' hx hx' hA
  rw [Nat.succ_mul] at hp'
  refine EvP.step (fun k => by rw [spec_l20Cells.l0]) ?_
  simp only [if_pos (show (i : Int) < (m : Int) by omega), ha]
  refine EvP.bind (ih p hp (by omega)) ?_
  rintro ⟨ys, p1⟩ ⟨a1, a2, a3, a4, a5⟩
  simp only at a1 a2 a3 a4 a5
  simp only [if_pos (show xs.length + ys.length < 4398046511104 by omega), w64s (show i + 1 < 9223372036854775808 by omega)]
  refine EvP.mono (ihj (i + 1) (xs ++ ys) p1 (by omega) (by omega) (by omega) (by rw [List.length_append]; omega) (by rw [List.length_append]; omega) (hA.app a3)) ?_
  ·rintro ⟨r, q⟩ ⟨b1, b2, b3, b4, b5⟩
   simp only at b1 b2 b3 b4 b5
   rw [List.length_append] at b2
   refine ⟨b1, ?_, b3, by simp only; omega, ?_⟩
   ·simp only [Nat.succ_mul]; omega
   ·simp only [Nat.succ_mul]; omega
theorem node (L : List Int) (hL : Bys L) (d : Nat) (hd : d ≤ 4)
  (B : Int) (hB : B ≤ 600000) (ih : ∀ p : Int, 0 ≤ p → p ≤ B → EvP (fun k => spec_l20Cells.f k L p (d : Int)) (CellsOk d p)) (x5 : Int) (h5 : 5 ≤ x5) (h9 : x5 ≤ 9) (p : Int) (hp : 0 ≤ p) (hp' : p + 40000 ≤ B) :
  EvP (fun k => spec_l20Cells.j0 k ((d + 1 : Nat) : Int) x5 L p) (fun r => 1 ≤ r.1.length ∧ r.1.length ≤ 1 + 3 * cN d ∧ AllC 60 r.1 ∧ p ≤ r.2 ∧ r.2 ≤ p + 3 + (3 * cM d : Nat)) := by
 have hcm : cM d ≤ 10000 := by
  have : ∀ d, d ≤ 4 → cM d ≤ 10000 := by decide
  exact this d hd
 have ha : wrap64 (((d + 1 : Nat) : Int) - 1) = (d : Int) := by rw [w64 (by omega) (by omega)]; omega
 have j1 : ∀ (m : Int) (s : ByteArray) (q : Int), 0 ≤ m → m ≤ 3 → s.size ≤ 60 → p ≤ q → q ≤ p + 3 →
   EvP (fun k => spec_l20Cells.j1 k ((d + 1 : Nat) : Int) x5 m s L q) (fun r => 1 ≤ r.1.length ∧ r.1.length ≤ 1 + 3 * cN d ∧ AllC 60 r.1 ∧ p ≤ r.2 ∧ r.2 ≤ p + 3 + (3 * cM d : Nat)) := by
  intro m s q hm hm' hs hq hq'
  obtain ⟨m, rfl⟩ := Int.eq_ofNat_of_zero_le hm
  refine EvP.step (fun k => by rw [spec_l20Cells.j1]) ?_
  have hle : m * cM d ≤ 3 * cM d := Nat.mul_le_mul_right _ (by omega)
  have hle2 : m * cN d ≤ 3 * cN d := Nat.mul_le_mul_right _ (by omega)
  refine EvP.mono (kids L hL d _ ha hd B hB ih m (by omega) m 0 [⟨x5, s, (m : Int)⟩] q (by omega) (by omega) (by omega) (Nat.le_refl _) (by rw [List.length_singleton]; omega) (AllC.one hs)) ?_
  rintro ⟨r, z⟩ ⟨b1, b2, b3, b4, b5⟩
  simp only at b1 b2 b3 b4 b5
  rw [List.length_singleton] at b2
  exact ⟨b1, by simp only; omega, b3, by simp only; omega, by simp only; omega⟩
 refine EvP.step (fun k => by rw [spec_l20Cells.j0]) ?_
 simp only [if_neg (show ¬ x5 = 1 by omega), if_neg (show ¬ x5 = 2 by omega), if_neg (show ¬ x5 = 3 by omega), if_neg (show ¬ x5 = 4 by omega)]
 refine EvP.bind (pick_p L hL p 3 hp (by omega) (by omega)) ?_
 rintro ⟨v1, p1⟩ ⟨a1, a2, a3⟩
 simp only at a1 a2 a3
 refine EvP.bind (pick_p L hL p1 2 (by omega) (by omega) (by omega)) ?_
 rintro ⟨v2, p2⟩ ⟨b1, b2, b3⟩
 simp only at b1 b2 b3
 have hw : wrap64 (1 + v2) = 1 + v2 := w64 (by omega) (by omega)
 simp only [hw, Option.bind_some]
 have k1 := rd_all (P := fun y => 0 ≤ y ∧ y ≤ 3) [0, 0, 0, 0, 0, v1, 1 + v2, 1, 2, 3] (by
  intro y hy
  simp only [List.mem_cons, List.not_mem_nil, or_false] at hy
  rcases hy with rfl | rfl | rfl | rfl | rfl | rfl | rfl | rfl | rfl | rfl <;> omega) x5 (by omega) (by simp; omega)
 simp only [if_pos (show (0 : Int) ≤ x5 by omega), List.length_cons, List.length_nil]
 simp only [if_pos (show x5 < ((0 + 1 + 1 + 1 + 1 + 1 + 1 + 1 + 1 + 1 + 1 : Nat) : Int) by omega)]
 generalize rd [0, 0, 0, 0, 0, v1, 1 + v2, 1, 2, 3] x5 = m at k1
 by_cases e6 : x5 = 6
 ·simp only [if_pos e6]
  refine EvP.bind (pick_p L hL p2 9 (by omega) (by omega) (by omega)) ?_
  rintro ⟨v3, p3⟩ ⟨c1, c2, c3⟩
  simp only at c1 c2 c3
  simp only [if_pos c1]
  simp only [if_pos (show v3 < ((0 + 1 + 1 + 1 + 1 + 1 + 1 + 1 + 1 + 1 : Nat) : Int) by omega)]
  exact j1 m _ p3 k1.1 k1.2 (rdS_all (m := 60) (by unfold AllS; decide) v3 c1 (by simp; omega)) (by omega) (by omega)
 ·simp only [if_neg e6]
  by_cases e7 : x5 = 7
  ·simp only [if_pos e7]
   refine EvP.bind (pick_p L hL p2 2 (by omega) (by omega) (by omega)) ?_
   rintro ⟨v3, p3⟩ ⟨c1, c2, c3⟩
   simp only at c1 c2 c3
   simp only [if_pos c1]
   simp only [if_pos (show v3 < ((0 + 1 + 1 : Nat) : Int) by omega)]
   exact j1 m _ p3 k1.1 k1.2 (rdS_all (m := 60) (by unfold AllS; decide) v3 c1 (by simp; omega)) (by omega) (by omega)
  ·simp only [if_neg e7]
   by_cases e8 : x5 = 8
   ·simp only [if_pos e8]
    refine EvP.bind (pick_p L hL p2 15 (by omega) (by omega) (by omega)) ?_
    rintro ⟨v3, p3⟩ ⟨c1, c2, c3⟩
    simp only at c1 c2 c3
    simp only [if_pos c1]
    simp only [if_pos (show v3 < ((0 + 1 + 1 + 1 + 1 + 1 + 1 + 1 + 1 + 1 + 1 + 1 + 1 + 1 + 1 + 1 : Nat) : Int) by omega)]
    exact j1 m _ p3 k1.1 k1.2 (rdS_all (m := 60) (by unfold AllS; decide) v3 c1 (by simp; omega)) (by omega) (by omega)
   ·simp only [if_neg e8]
    exact j1 m _ p2 k1.1 k1.2 (Nat.zero_le _) (by omega) (by omega)
theorem cells_p (L : List Int) (hL : Bys L) : ∀ (d : Nat), d ≤ 4 → ∀ p : Int, 0 ≤ p → p ≤ 600000 - 50000 * (d : Int) → EvP (fun k => spec_l20Cells.f k L p (d : Int)) (CellsOk d p) := by
 have low : ∀ (d : Nat), d ≤ 1 → ∀ p : Int, 0 ≤ p → p ≤ 600000 → EvP (fun k => spec_l20Cells.f k L p (d : Int)) (CellsOk d p) := by
  intro d hd p hp hp'
  refine EvP.step (fun k => by rw [spec_l20Cells.f]) ?_
  simp only [Option.bind_some]
  refine EvP.bind (pick_p L hL p 13 hp (by omega) (by omega)) ?_
  rintro ⟨v, p1⟩ ⟨a1, a2, a3⟩
  simp only at a1 a2 a3
  simp only [if_pos a1, List.length_cons, List.length_nil]
  simp only [if_pos (show v < ((0 + 1 + 1 + 1 + 1 + 1 + 1 + 1 + 1 + 1 + 1 + 1 + 1 + 1 : Nat) : Int) by omega), if_pos (show (d : Int) ≤ 1 by omega)]
  refine EvP.bind (pick_p L hL p1 4 (by omega) (by omega) (by omega)) ?_
  rintro ⟨u, p2⟩ ⟨b1, b2, b3⟩
  simp only at b1 b2 b3
  simp only [w64 (n := 1 + u) (by omega) (by omega)]
  refine EvP.mono (leaf L hL (d : Int) (1 + u) (by omega) (by omega) p2 (by omega) (by omega)) ?_
  rintro ⟨r, q⟩ ⟨c1, c2, c3, c4⟩
  simp only at c1 c2 c3 c4
  have h1 := cN_pos d
  have h2 : 8 ≤ cM d := by cases d with | zero => decide | succ d => rw [cM]; omega
  exact ⟨by simp only; omega, by simp only; omega, c2, by simp only; omega, by simp only; omega⟩
 intro d
 induction d with
 | zero => intro _ p hp hp'; exact low 0 (by omega) p hp (by omega)
 | succ d ihd =>
  intro hd p hp hp'
  by_cases h0 : d = 0
  ·subst h0; exact low 1 (by omega) p hp (by omega)
  ·have ih := ihd (by omega)
   have hcm : cM d ≤ 1000 := by
    have : ∀ d, d ≤ 4 → cM d ≤ 1000 := by decide
    exact this d (by omega)
   have hcp := cN_pos d
   refine EvP.step (fun k => by rw [spec_l20Cells.f]) ?_
   simp only [Option.bind_some]
   refine EvP.bind (pick_p L hL p 13 hp (by omega) (by omega)) ?_
   rintro ⟨v, p1⟩ ⟨a1, a2, a3⟩
   simp only at a1 a2 a3
   simp only [if_pos a1, List.length_cons, List.length_nil]
   simp only [if_pos (show v < ((0 + 1 + 1 + 1 + 1 + 1 + 1 + 1 + 1 + 1 + 1 + 1 + 1 + 1 : Nat) : Int) by omega), if_neg (show ¬ ((d + 1 : Nat) : Int) ≤ 1 by omega)]
   have k1 := rd_all (P := fun y => 1 ≤ y ∧ y ≤ 9) [1, 2, 3, 4, 4, 5, 6, 7, 7, 8, 8, 8, 9] (by decide) v a1 (by simp; omega)
   generalize rd [1, 2, 3, 4, 4, 5, 6, 7, 7, 8, 8, 8, 9] v = x5 at k1
   by_cases h4 : x5 ≤ 4
   ·refine EvP.mono (leaf L hL ((d + 1 : Nat) : Int) x5 k1.1 h4 p1 (by omega) (by omega)) ?_
    rintro ⟨r, q⟩ ⟨c1, c2, c3, c4⟩
    simp only at c1 c2 c3 c4
    exact ⟨by simp only; omega, by simp only [cN]; omega, c2, by simp only; omega, by simp only [cM]; omega⟩
   ·refine EvP.mono (node L hL d (by omega) (600000 - 50000 * (d : Int)) (by omega) ih x5 (by omega) k1.2 p1 (by omega) (by omega)) ?_
    rintro ⟨r, q⟩ ⟨c1, c2, c3, c4, c5⟩
    simp only at c1 c2 c3 c4 c5
    exact ⟨c1, by simp only [cN]; omega, c3, by simp only; omega, by simp only [cM]; omega⟩
/-- a drawn expression's cells; where nothing is bent there is at least one. -/
theorem expr_p (L : List Int) (hL : Bys L) (n : Int) (hn : 0 ≤ n) (hn' : n ≤ 1000) (p : Int) (hp : 0 ≤ p) (hp' : p ≤ 1000) :
  EvP (fun k => spec_l20Expr.f k L p n) (fun r => r.1.length ≤ 100 ∧ AllC 60 r.1 ∧ p ≤ r.2 ∧ r.2 ≤ p + 2000 ∧ (n = 0 → 1 ≤ r.1.length)) := by
 have bent : ∀ (xs : List S35) (q : Int), 1 ≤ xs.length → xs.length ≤ 60 → AllC 60 xs → p ≤ q → q ≤ p + 1900 → EvP (fun k => spec_l20Expr.j0 k n xs L q) (fun r => r.1.length ≤ 100 ∧ AllC 60 r.1 ∧ p ≤ r.2 ∧ r.2 ≤ p + 2000 ∧ (n = 0 → 1 ≤ r.1.length)) := by
  intro xs q h1 h2 hA hq hq'
  refine EvP.step (fun k => by rw [spec_l20Expr.j0]) ?_
  by_cases h0 : n = 0
  ·subst h0
   simp only [odd_zero, Option.bind_some, Bool.false_eq_true, if_false]
   exact EvP.now ⟨by simp only; omega, hA, hq, by simp only; omega, fun _ => h1⟩
  ·refine EvP.bind (odd_p L hL q n (by omega) (by omega) hn (by omega)) ?_
   rintro ⟨b, q1⟩ ⟨a1, a2⟩
   simp only at a1 a2 ⊢
   cases b with
   | false =>
    simp only [Bool.false_eq_true, if_false]
    exact EvP.now ⟨by simp only; omega, hA, by simp only; omega, by simp only; omega, fun _ => h1⟩
   | true =>
    simp only [if_true]
    refine EvP.bind (pick_p L hL q1 6 (by omega) (by omega) (by omega)) ?_
    rintro ⟨v, q2⟩ ⟨b1, b2, b3⟩
    simp only at b1 b2 b3
    by_cases e0 : v = 0
    ·simp only [if_pos e0, if_pos (show xs.length < 4398046511104 by omega)]
     refine EvP.now ⟨by simp only [List.length_append, List.length_singleton]; omega, hA.app (AllC.one (show (⟨#[49]⟩ : ByteArray).size ≤ 60 by decide)), by simp only; omega, by simp only; omega, fun _ => by simp only [List.length_append, List.length_singleton]; omega⟩
    ·simp only [if_neg e0]
     by_cases e1 : v = 1
     ·simp only [if_pos e1, if_pos (show (1 : Int) ≤ (xs.length : Int) by omega)]
      refine EvP.now ⟨by simp only [List.length_drop]; omega, fun c hc => hA c (List.mem_of_mem_drop hc), by simp only; omega, by simp only; omega, fun h => absurd h h0⟩
     ·simp only [if_neg e1]
      by_cases e2 : v = 2
      ·simp only [if_pos e2]
       refine EvP.bind (pick_p L hL q2 (xs.length : Int) (by omega) (by omega) (by omega)) ?_
       rintro ⟨i, q3⟩ ⟨c1, c2, c3⟩
       simp only at c1 c2 c3 ⊢
       refine EvP.bind (pick_p L hL q3 11 (by omega) (by omega) (by omega)) ?_
       rintro ⟨u, q4⟩ ⟨d1, d2, d3⟩
       simp only at d1 d2 d3
       simp only [if_pos c1, if_pos c2]
       have hc := rdC_all (P := fun c => c.f1.size ≤ 60) hA i c1 c2
       refine EvP.now ⟨by simp only [List.length_set]; omega, hA.set _ hc, by simp only; omega, by simp only; omega, fun h => absurd h h0⟩
      ·simp only [if_neg e2]
       by_cases e3 : v = 3
       ·simp only [if_pos e3]
        refine EvP.bind (pick_p L hL q2 (xs.length : Int) (by omega) (by omega) (by omega)) ?_
        rintro ⟨i, q3⟩ ⟨c1, c2, c3⟩
        simp only [Option.bind_some] at c1 c2 c3 ⊢
        refine EvP.bind (pick_p L hL q3 3 (by omega) (by omega) (by omega)) ?_
        rintro ⟨u, q4⟩ ⟨d1, d2, d3⟩
        simp only at d1 d2 d3
        simp only [if_pos d1, List.length_cons, List.length_nil]
        simp only [if_pos (show u < ((0 + 1 + 1 + 1 : Nat) : Int) by omega), if_pos c1, if_pos c2]
        have hc := rdC_all (P := fun c => c.f1.size ≤ 60) hA i c1 c2
        refine EvP.now ⟨by simp only [List.length_set]; omega, hA.set _ hc, by simp only; omega, by simp only; omega, fun h => absurd h h0⟩
       ·simp only [if_neg e3]
        by_cases e4 : v = 4
        ·simp only [if_pos e4]
         have wrapl : ∀ (j : Nat) (i : Nat) (ys : List S35), i + j = 12 → ys.length + j ≤ 90 → AllC 60 ys → EvP (fun k => spec_l20Expr.l0 k ys (i : Int) L q2) (fun r => r.1.length ≤ 90 ∧ AllC 60 r.1 ∧ r.2 = q2) := by
          intro j
          induction j with
          | zero =>
           intro i ys hi hy hB
           refine EvP.step (fun k => by rw [spec_l20Expr.l0]) ?_
           simp only [if_neg (show ¬ (i : Int) < 12 by omega)]
           exact EvP.now ⟨by simp only; omega, hB, rfl⟩
          | succ j ihj =>
           intro i ys hi hy hB
           refine EvP.step (fun k => by rw [spec_l20Expr.l0]) ?_
           simp only [if_pos (show (i : Int) < 12 by omega), Option.bind_some, List.length_cons, List.length_nil]
           simp only [if_pos (show 0 + 1 + ys.length < 4398046511104 by omega), w64s (show i + 1 < 9223372036854775808 by omega)]
           exact ihj (i + 1) _ (by omega) (by rw [List.length_append, List.length_singleton]; omega) ((AllC.one (show (⟨#[33]⟩ : ByteArray).size ≤ 60 by decide)).app hB)
         refine EvP.mono (wrapl 12 0 xs rfl (by omega) hA) ?_
         rintro ⟨r, z⟩ ⟨c1, c2, c3⟩
         simp only at c1 c2 c3
         exact ⟨by simp only; omega, c2, by simp only; omega, by simp only; omega, fun h => absurd h h0⟩
        ·simp only [if_neg e4]
         refine EvP.bind (pick_p L hL q2 (xs.length : Int) (by omega) (by omega) (by omega)) ?_
         rintro ⟨i, q3⟩ ⟨c1, c2, c3⟩
         simp only at c1 c2 c3
         simp only [if_pos c1, if_pos c2]
         refine EvP.now ⟨by simp only [List.length_set]; omega, hA.set _ (show (⟨#[63]⟩ : ByteArray).size ≤ 60 by decide), by simp only; omega, by simp only; omega, fun h => absurd h h0⟩
 unfold spec_l20Expr.f
 refine EvP.bind (pick_p L hL p 4 hp (by omega) (by omega)) ?_
 rintro ⟨v, p1⟩ ⟨a1, a2, a3⟩
 simp only at a1 a2 a3 ⊢
 obtain ⟨d, hd⟩ := Int.eq_ofNat_of_zero_le (show 0 ≤ 1 + v by omega)
 rw [w64 (n := 1 + v) (by omega) (by omega), hd]
 have hcm : cM d ≤ 1000 := by
  have : ∀ d, d ≤ 4 → cM d ≤ 1000 := by decide
  exact this d (by omega)
 refine EvP.bind (cells_p L hL d (by omega) p1 (by omega) (by omega)) ?_
 rintro ⟨xs, p2⟩ ⟨b1, b2, b3, b4, b5⟩
 simp only at b1 b2 b3 b4 b5 ⊢
 by_cases h60 : (xs.length : Int) > 60
 ·simp only [if_pos h60, if_pos (show (1 : Int) ≤ (xs.length : Int) by omega), Option.bind_some]
  have hl : (xs.take (1 : Int).toNat).length = 1 := by rw [List.length_take]; show min 1 xs.length = 1; omega
  simp only [hl, if_pos (show (0 : Int) < ((1 : Nat) : Int) by omega)]
  refine bent _ p2 (by rw [List.length_set, hl]; exact Nat.le_refl _) (by rw [List.length_set, hl]; omega) ?_ (by omega) (by omega)
  exact AllC.set (fun c hc => b3 c (List.mem_of_mem_take hc)) _ (show (⟨#[55]⟩ : ByteArray).size ≤ 60 by decide)
 ·simp only [if_neg h60]
  exact bent xs p2 b1 (by omega) b3 (by omega) (by omega)

def num (n : Nat) : ByteArray := ⟨(Lib.decDigits n).toArray⟩
def dig (n : Nat) : ByteArray := strOfNums [(48 + ((n % 10 : Nat) : Int)) % 256]
theorem dig_bytes (n : Nat) : bytesOf (dig n) = [48 + ((n % 10 : Nat) : Int)] := by
 unfold dig
 rw [show (48 + ((n % 10 : Nat) : Int)) % 256 = 48 + ((n % 10 : Nat) : Int) by omega]
 exact bytesOf_str _ (fun x hx => by rw [List.mem_singleton] at hx; omega)
theorem ofNat_toNat (n : Nat) (h : n < 10) : (UInt8.ofNat (48 + n)).toNat = 48 + n := by
 rw [UInt8.toNat_ofNat']; exact Nat.mod_eq_of_lt (by omega)
theorem num_small {n : Nat} (h : n < 10) : num n = dig n := by
 apply bytesOf_inj
 rw [dig_bytes]
 unfold num bytesOf
 rw [Lib.decDigits, dif_pos h]
 simp only [List.map_cons, List.map_nil]
 rw [ofNat_toNat n h, Nat.mod_eq_of_lt h]; rfl
theorem num_big {n : Nat} (h : ¬ n < 10) : num n = num (n / 10) ++ dig n := by
 apply bytesOf_inj
 rw [bytesOf_app, dig_bytes]
 unfold num bytesOf
 rw [Lib.decDigits, dif_neg h]
 simp only [List.map_append, List.map_cons, List.map_nil]
 rw [ofNat_toNat _ (Nat.mod_lt _ (by omega))]; rfl
theorem dig_size (n : Nat) : (dig n).size = 1 := by rw [size_bytes, dig_bytes]; rfl
theorem num_size : ∀ (d n : Nat), n < 10 ^ (d + 1) → (num n).size ≤ d + 1
 | 0, n, h => by rw [num_small (by simpa using h), dig_size]; exact Nat.le_refl _
 | d + 1, n, h => by
  by_cases h10 : n < 10
  ·rw [num_small h10, dig_size]; omega
  ·rw [num_big h10, ByteArray.size_append, dig_size]
   have := num_size d (n / 10) (by rw [Nat.pow_succ] at h; omega)
   omega
theorem itoa_num (n : Nat) (h : n ≤ 9223372036854775807) : strconv_Itoa.f (n : Int) = some (num n) := by
 unfold strconv_Itoa.f
 rw [if_pos (by omega)]
 unfold Lib.itoa num
 rw [if_neg (by omega)]; rfl
theorem bapp_assoc (a b c : ByteArray) : (a ++ b) ++ c = a ++ (b ++ c) := by
 apply bytesOf_inj; simp only [bytesOf_app, List.append_assoc]
theorem bapp_nil (o : ByteArray) : o ++ (⟨#[]⟩ : ByteArray) = o := by
 apply bytesOf_inj; rw [bytesOf_app]; exact List.append_nil _
theorem number_l (n : Nat) : n < 1000000000000000000 → ∀ acc : ByteArray, acc.size + (num n).size ≤ 1000 →
  Ev (fun k => spec_l2Number.l0 k (n : Int) (dig n ++ acc)) (num n ++ acc) := by
 induction n using Nat.strongRecOn with
 | ind n ih =>
  intro hn acc ha
  by_cases h10 : n < 10
  ·refine Ev.step (fun k => by rw [spec_l2Number.l0]) ?_
   simp only [if_neg (show ¬ (n : Int) > 9 by omega), num_small h10]
   exact Ev.now _
  ·have hs : (num n).size = (num (n / 10)).size + 1 := by rw [num_big h10, ByteArray.size_append, dig_size]
   have ih2 := ih (n / 10) (by omega) (by omega) (dig n ++ acc) (by rw [ByteArray.size_append, dig_size]; omega)
   have e1 : wrap64 (Int.tdiv (n : Int) 10) = ((n / 10 : Nat) : Int) := by
    rw [Int.tdiv_eq_ediv_of_nonneg (by omega)]
    rw [show (n : Int) / 10 = ((n / 10 : Nat) : Int) by omega, w64n (by omega)]
   have e2 : (wrap64 (48 + (Int.tmod ((n / 10 : Nat) : Int) 10))) % 256 = (48 + ((n / 10 % 10 : Nat) : Int)) % 256 := by
    rw [Int.tmod_eq_emod_of_nonneg (by omega), show ((n / 10 : Nat) : Int) % 10 = ((n / 10 % 10 : Nat) : Int) by omega, w64 (by omega) (by omega)]
   have e3 : strOfNums [(48 + ((n / 10 % 10 : Nat) : Int)) % 256] = dig (n / 10) := rfl
   refine Ev.step (fun k => by rw [spec_l2Number.l0]) ?_
   simp only [if_pos (show (n : Int) > 9 by omega), Option.bind_some, e1, e2, e3, dig_size, ByteArray.size_append, if_pos (show 1 + (1 + acc.size) ≤ 9223372036854775807 by omega)]
   rw [num_big h10, bapp_assoc]
   exact ih2
theorem number (n : Nat) (h : n < 10000000000) : Ev (fun k => spec_l2Number.f k (n : Int)) (num n) := by
 unfold spec_l2Number.f
 have e2 : [(wrap64 (48 + (Int.tmod (n : Int) 10))) % 256] = [(48 + ((n % 10 : Nat) : Int)) % 256] := by
  rw [Int.tmod_eq_emod_of_nonneg (by omega), show (n : Int) % 10 = ((n % 10 : Nat) : Int) by omega, w64 (by omega) (by omega)]
 have e3 : strOfNums [(48 + ((n % 10 : Nat) : Int)) % 256] = dig n := rfl
 have hz := num_size 9 n (by omega)
 have := number_l n (by omega) (⟨#[]⟩ : ByteArray) (by show 0 + _ ≤ _; omega)
 rw [bapp_nil, bapp_nil] at this
 simp only [e2, e3]
 exact this

def isD (x : Int) : Bool := decide (48 ≤ x ∧ x ≤ 57)
theorem isD_iff {x : Int} : isD x = true ↔ 48 ≤ x ∧ x ≤ 57 := by unfold isD; exact decide_eq_true_iff
def dv : Int → List Int → Int
 | n, [] => n
 | n, x :: l => dv (10 * n + (x - 48)) l
theorem dv_app : ∀ (l m : List Int) (n : Int), dv n (l ++ m) = dv (dv n l) m
 | [], _, _ => rfl
 | x :: l, m, n => by rw [List.cons_append, dv, dv]; exact dv_app l m _
theorem pow10_pos (n : Nat) : (0 : Int) < 10 ^ n := Int.pow_pos (by omega)
theorem dv_acc : ∀ (l : List Int) (n : Int), dv n l = n * 10 ^ l.length + dv 0 l
 | [], n => by simp [dv]
 | x :: l, n => by
  rw [dv, dv, dv_acc l (10 * n + (x - 48)), dv_acc l (10 * 0 + (x - 48)), List.length_cons, Int.pow_succ]
  generalize (10 : Int) ^ l.length = p
  grind
theorem dv_bd : ∀ (l : List Int) (n : Int), l.all isD = true → 0 ≤ n → 0 ≤ dv n l ∧ dv n l + 1 ≤ (n + 1) * 10 ^ l.length
 | [], n, _, hn => by simp [dv]; exact hn
 | x :: l, n, h, hn => by
  rw [List.all_cons, Bool.and_eq_true] at h
  have hx := isD_iff.1 h.1
  have ih := dv_bd l (10 * n + (x - 48)) h.2 (by omega)
  rw [dv, List.length_cons, Int.pow_succ]
  refine ⟨ih.1, ?_⟩
  have hp := pow10_pos l.length
  have h2 : (10 * n + (x - 48) + 1) * 10 ^ l.length ≤ (10 * n + 10) * 10 ^ l.length := Int.mul_le_mul_of_nonneg_right (by omega) (by omega)
  have h3 : (n + 1) * (10 ^ l.length * 10) = (10 * n + 10) * 10 ^ l.length := by generalize (10 : Int) ^ l.length = p; grind
  omega
theorem num_isD : ∀ n : Nat, (bytesOf (num n)).all isD = true := by
 intro n
 induction n using Nat.strongRecOn with
 | ind n ih =>
  by_cases h : n < 10
  ·rw [num_small h, dig_bytes]
   simp only [List.all_cons, List.all_nil, Bool.and_true]
   exact isD_iff.2 (by omega)
  ·rw [num_big h, bytesOf_app, dig_bytes, List.all_append, ih (n / 10) (by omega)]
   simp only [List.all_cons, List.all_nil, Bool.and_true, Bool.true_and]
   exact isD_iff.2 (by omega)
theorem dv_num : ∀ n : Nat, dv 0 (bytesOf (num n)) = (n : Int) := by
 intro n
 induction n using Nat.strongRecOn with
 | ind n ih =>
  by_cases h : n < 10
  ·rw [num_small h, dig_bytes]
   simp only [dv]; omega
  ·rw [num_big h, bytesOf_app, dig_bytes, dv_app, ih (n / 10) (by omega)]
   simp only [dv]; omega
theorem num_pos (n : Nat) : 1 ≤ (bytesOf (num n)).length := by
 by_cases h : n < 10
 ·rw [num_small h, dig_bytes]; exact Nat.le_refl _
 ·rw [num_big h, bytesOf_app, dig_bytes, List.length_append]; simp
theorem num_len {n : Nat} (d : Nat) (h : n < 10 ^ (d + 1)) : (bytesOf (num n)).length ≤ d + 1 := by
 rw [← size_bytes]; exact num_size d n h

def FV (t b : Int) : Prop := -1000000000 ≤ t ∧ t ≤ 1000000000 ∧ 1 ≤ b ∧ b ≤ 1000000 ∧ Int.gcd t b = 1
instance (t b : Int) : Decidable (FV t b) := by unfold FV; infer_instance
def fv (t b : Int) : Bool := decide (FV t b)
def mk (t b : Int) : Int × Int × Bool :=
 if FV (t / (Int.gcd t b : Int)) (b / (Int.gcd t b : Int)) then (t / (Int.gcd t b : Int), b / (Int.gcd t b : Int), true) else (0, 0, false)
theorem gcd_pos {t b : Int} (hb : 0 < b) : 0 < (Int.gcd t b : Int) := by
 have : Int.gcd t b ≠ 0 := by
  intro h
  have := (Int.gcd_eq_zero_iff.1 h).2
  omega
 omega
theorem gcd_parts (t b : Int) (hb : 0 < b) : ∃ x y : Int, t / (Int.gcd t b : Int) = x ∧ b / (Int.gcd t b : Int) = y ∧ t = x * (Int.gcd t b : Int) ∧ b = y * (Int.gcd t b : Int) ∧ 0 < y := by
 have hg := gcd_pos (t := t) hb
 have h1 : t / (Int.gcd t b : Int) * (Int.gcd t b : Int) = t := Int.ediv_mul_cancel (Int.gcd_dvd_left _ _)
 have h2 : b / (Int.gcd t b : Int) * (Int.gcd t b : Int) = b := Int.ediv_mul_cancel (Int.gcd_dvd_right _ _)
 refine ⟨_, _, rfl, rfl, h1.symm, h2.symm, ?_⟩
 have h3 : 0 ≤ b / (Int.gcd t b : Int) := Int.ediv_nonneg (by omega) (by omega)
 rcases Int.lt_or_eq_of_le h3 with h | h
 ·exact h
 ·rw [← h] at h2; omega
theorem mk_true {t b x y : Int} (hb : 0 < b) (h : FV x y) (e : x * b = t * y) : mk t b = (x, y, true) := by
 have hy : y ∣ b := by
  have h1 : y ∣ x * b := ⟨t, by rw [e, Int.mul_comm]⟩
  have h2 := Int.natAbs_dvd_natAbs.2 h1
  rw [Int.natAbs_mul] at h2
  have h3 : Nat.Coprime y.natAbs x.natAbs := by
   have := h.2.2.2.2
   rw [Int.gcd_comm] at this
   exact this
  exact Int.natAbs_dvd_natAbs.1 (h3.dvd_of_dvd_mul_left h2)
 obtain ⟨m, rfl⟩ := hy
 have hy0 : 0 < y := by have := h.2.2.1; omega
 have hm : 0 < m := by
  rcases Int.lt_or_le 0 m with h1 | h1
  ·exact h1
  ·have := Int.mul_nonpos_of_nonneg_of_nonpos (a := y) (b := m) (by omega) h1
   omega
 have ht : t = x * m := by
  have : (x * m) * y = t * y := by grind
  exact (Int.eq_of_mul_eq_mul_right (by omega) this).symm
 subst ht
 have hg : (Int.gcd (x * m) (y * m) : Int) = m := by
  rw [Int.gcd_mul_right, h.2.2.2.2]
  omega
 unfold mk
 rw [hg, Int.mul_ediv_cancel _ (by omega), Int.mul_ediv_cancel _ (by omega), if_pos h]
theorem mk_cases (t b : Int) (hb : 0 < b) : mk t b = (0, 0, false) ∨ ∃ x y, FV x y ∧ x * b = t * y ∧ mk t b = (x, y, true) := by
 obtain ⟨x, y, h1, h2, h3, h4, h5⟩ := gcd_parts t b hb
 unfold mk
 rw [h1, h2]
 by_cases h : FV x y
 ·right
  refine ⟨x, y, h, ?_, if_pos h⟩
  have e1 : x * b = x * (y * (Int.gcd t b : Int)) := by rw [← h4]
  have e2 : t * y = x * (Int.gcd t b : Int) * y := by rw [← h3]
  rw [e1, e2]; grind
 ·left; exact if_neg h
theorem gcd_step (a b : Int) : Int.gcd b (Int.tmod a b) = Int.gcd a b := by
 unfold Int.gcd
 rw [Int.natAbs_tmod, Nat.gcd_comm a.natAbs, Nat.gcd_comm b.natAbs, Nat.gcd_rec b.natAbs a.natAbs]
theorem mx_abs (a : Int) (h1 : -4611686018427387904 ≤ a) (h2 : a ≤ 4611686018427387904) : mx a (wrap64 (-a)) = (a.natAbs : Int) := by
 rw [w64 (by omega) (by omega)]
 unfold mx
 split <;> omega
theorem gcd_natAbs (a b : Int) : Int.gcd (a.natAbs : Int) b = Int.gcd a b := by
 unfold Int.gcd; simp
def noF : Int × Int × Bool := (0, 0, false)
theorem fv_iff {a b : Int} : fv a b = true ↔ FV a b := by unfold fv; exact decide_eq_true_iff
theorem tdiv_gcd (t b : Int) (hb : 0 < b) : Int.tdiv t (Int.gcd t b : Int) = t / (Int.gcd t b : Int) ∧ Int.tdiv b (Int.gcd t b : Int) = b / (Int.gcd t b : Int) := by
 have hg := gcd_pos (t := t) hb
 constructor
 ·exact Int.tdiv_eq_ediv_of_dvd (Int.gcd_dvd_left _ _)
 ·exact Int.tdiv_eq_ediv_of_dvd (Int.gcd_dvd_right _ _)
theorem div_small (t g : Int) (ht : -4611686018427387904 ≤ t) (ht' : t ≤ 4611686018427387904) (hg : 0 < g) : -4611686018427387904 ≤ t / g ∧ t / g ≤ 4611686018427387904 := by
 rcases Int.lt_or_le t 0 with h | h
 ·have h1 : t / g ≤ 0 := by
   have := Int.ediv_neg_of_neg_of_pos h hg
   omega
  have h2 : t ≤ t / g := by
   apply Int.le_ediv_of_mul_le hg
   have h3 : 0 ≤ (-t) * (g - 1) := Int.mul_nonneg (by omega) (by omega)
   have h4 : (-t) * (g - 1) = t - t * g := by grind
   omega
  omega
 ·have h1 := Int.ediv_nonneg h (show 0 ≤ g by omega)
  have h2 := Int.ediv_le_self g h
  omega
/-- how many bytes there are ahead of the first one that is c. -/
def fst (c : Int) : List Int → Nat
 | [] => 0
 | x :: l => if x = c then 0 else fst c l + 1

def digs (l : List Int) (a b : Nat) : Bool := l.all isD && decide (a ≤ l.length) && decide (l.length ≤ b)
theorem digs_iff {l : List Int} {a b : Nat} : digs l a b = true ↔ l.all isD = true ∧ a ≤ l.length ∧ l.length ≤ b := by
 unfold digs; simp only [Bool.and_eq_true, decide_eq_true_eq, and_assoc]
def decOf (l : List Int) : Int × Int × Bool :=
 if fst 46 l < l.length then
  (if (digs (l.take (fst 46 l)) 1 10 && digs (l.drop (fst 46 l + 1)) 1 6) = true then mk (dv 0 (l.take (fst 46 l) ++ l.drop (fst 46 l + 1))) (10 ^ (l.drop (fst 46 l + 1)).length) else noF)
 else if digs l 1 10 = true then mk (dv 0 l) 1 else noF
theorem fst_le (c : Int) : ∀ l : List Int, fst c l ≤ l.length
 | [] => Nat.le_refl _
 | x :: l => by
  have := fst_le c l
  rw [fst, List.length_cons]; split <;> omega
theorem fst_none {c : Int} : ∀ {l : List Int}, (∀ x ∈ l, x ≠ c) → fst c l = l.length
 | [], _ => rfl
 | x :: l, h => by
  rw [fst, if_neg (h x List.mem_cons_self), List.length_cons, fst_none (fun y hy => h y (List.mem_cons_of_mem _ hy))]
theorem fst_app {c : Int} : ∀ {w : List Int} (r : List Int), (∀ x ∈ w, x ≠ c) → fst c (w ++ c :: r) = w.length
 | [], r, _ => by rw [List.nil_append, fst, if_pos rfl]; rfl
 | x :: w, r, h => by
  rw [List.cons_append, fst, if_neg (h x List.mem_cons_self), List.length_cons, fst_app r (fun y hy => h y (List.mem_cons_of_mem _ hy))]
theorem fst_take (c : Int) : ∀ l : List Int, ∀ x ∈ l.take (fst c l), x ≠ c
 | [], x, h => by simp [fst] at h
 | y :: l, x, h => by
  rw [fst] at h
  by_cases hy : y = c
  ·rw [if_pos hy] at h; simp at h
  ·rw [if_neg hy, List.take_succ_cons] at h
   rcases List.mem_cons.1 h with rfl | h
   ·exact hy
   ·exact fst_take c l x h
theorem fst_split (c : Int) : ∀ l : List Int, fst c l < l.length → l = l.take (fst c l) ++ c :: l.drop (fst c l + 1)
 | [], h => by simp [fst] at h
 | y :: l, h => by
  by_cases hy : y = c
  ·rw [fst, if_pos hy]; simp [hy]
  ·rw [fst, if_neg hy] at h ⊢
   rw [List.length_cons] at h
   have := fst_split c l (by omega)
   rw [List.take_succ_cons, List.drop_succ_cons, List.cons_append, ← this]
theorem isD_ne {x c : Int} (h : isD x = true) (hc : isD c = false) : x ≠ c := by
 intro e; rw [e, hc] at h; cases h
theorem all_ne {l : List Int} {c : Int} (h : l.all isD = true) (hc : isD c = false) : ∀ x ∈ l, x ≠ c := fun x hx => isD_ne (List.all_eq_true.1 h x hx) hc
theorem d46 : isD 46 = false := by decide
theorem d47 : isD 47 = false := by decide
theorem d45 : isD 45 = false := by decide
theorem decOf_whole {l : List Int} (h : digs l 1 10 = true) : decOf l = mk (dv 0 l) 1 := by
 have hd := digs_iff.1 h
 unfold decOf
 rw [if_neg (by rw [fst_none (all_ne hd.1 d46)]; omega), if_pos h]
theorem decOf_point {w r : List Int} (hw : digs w 1 10 = true) (hr : digs r 1 6 = true) : decOf (w ++ 46 :: r) = mk (dv 0 (w ++ r)) (10 ^ r.length) := by
 have hd := digs_iff.1 hw
 unfold decOf
 have e1 : (w ++ 46 :: r).take w.length = w := by simp
 have e2 : (w ++ 46 :: r).drop (w.length + 1) = r := by
  rw [List.drop_append]; simp
 rw [fst_app r (all_ne hd.1 d46), e1, e2, hw, hr, if_pos (by simp), if_pos (show (true && true) = true from rfl)]
theorem decOf_bad {l : List Int} {c : Int} (hc : c ∈ l) (h46 : c ≠ 46) (hD : isD c = false) : decOf l = noF := by
 unfold decOf
 by_cases h : fst 46 l < l.length
 ·rw [if_pos h]
  refine if_neg (fun e => ?_)
  rw [Bool.and_eq_true] at e
  have a1 := (digs_iff.1 e.1).1
  have a2 := (digs_iff.1 e.2).1
  rw [fst_split 46 l h] at hc
  rcases List.mem_append.1 hc with h1 | h1
  ·exact all_ne a1 hD c h1 rfl
  ·rcases List.mem_cons.1 h1 with h1 | h1
   ·exact h46 h1
   ·exact all_ne a2 hD c h1 rfl
 ·rw [if_neg h]
  exact if_neg (fun e => all_ne (digs_iff.1 e).1 hD c hc rfl)
theorem dv_lt18 (l : List Int) (h : l.all isD = true) (hl : l.length ≤ 16) : 0 ≤ dv 0 l ∧ dv 0 l ≤ 10000000000000000 := by
 have := dv_bd l 0 h (by omega)
 have h2 : (10 : Int) ^ l.length ≤ 10 ^ 16 := by
  have := Nat.pow_le_pow_right (show 10 > 0 by omega) hl
  exact_mod_cast this
 omega
theorem dv_lt10 (l : List Int) (h : l.all isD = true) (hl : l.length ≤ 10) : 0 ≤ dv 0 l ∧ dv 0 l ≤ 10000000000 := by
 have := dv_bd l 0 h (by omega)
 have h2 : (10 : Int) ^ l.length ≤ 10 ^ 10 := by
  have := Nat.pow_le_pow_right (show 10 > 0 by omega) hl
  exact_mod_cast this
 omega
theorem pow6 (n : Nat) (h : n ≤ 6) : (0 : Int) < 10 ^ n ∧ (10 : Int) ^ n ≤ 1000000 := by
 refine ⟨pow10_pos n, ?_⟩
 have := Nat.pow_le_pow_right (show 10 > 0 by omega) h
 have h2 : ((10 ^ n : Nat) : Int) ≤ ((10 ^ 6 : Nat) : Int) := by exact_mod_cast this
 simpa using h2

def fdig : Nat → Nat → Nat → List Nat
 | 0, _, _ => []
 | d + 1, r, q => if r = 0 then [] else (10 * r / q) :: fdig d (10 * r % q) q
def ds (l : List Nat) : List Int := List.map (fun (n : Nat) => 48 + (n : Int)) l
def bstr (l : List Nat) : ByteArray := strOfNums (ds l)
theorem fdig_lt : ∀ (d r q : Nat), r < q → ∀ x ∈ fdig d r q, x < 10
 | 0, _, _, _, x, h => by simp [fdig] at h
 | d + 1, r, q, hr, x, h => by
  rw [fdig] at h
  by_cases h0 : r = 0
  ·rw [if_pos h0] at h; cases h
  ·rw [if_neg h0] at h
   rcases List.mem_cons.1 h with rfl | h
   ·rw [Nat.div_lt_iff_lt_mul (by omega)]; omega
   ·exact fdig_lt d _ q (Nat.mod_lt _ (by omega)) x h
theorem fdig_len : ∀ (d r q : Nat), (fdig d r q).length ≤ d
 | 0, _, _ => Nat.le_refl _
 | d + 1, r, q => by
  rw [fdig]
  split
  ·exact Nat.zero_le _
  ·have := fdig_len d (10 * r % q) q
   rw [List.length_cons]; omega
theorem fdig_pos (d r q : Nat) (h : 0 < r) : 1 ≤ (fdig (d + 1) r q).length := by
 rw [fdig, if_neg (by omega), List.length_cons]; omega
theorem ds_isD : ∀ (l : List Nat), (∀ x ∈ l, x < 10) → (ds l).all isD = true
 | [], _ => rfl
 | x :: l, h => by
  have hx := h x List.mem_cons_self
  unfold ds
  rw [List.map_cons, List.all_cons, Bool.and_eq_true]
  exact ⟨isD_iff.2 (by omega), ds_isD l (fun y hy => h y (List.mem_cons_of_mem _ hy))⟩
theorem ds_bytes (l : List Nat) (h : ∀ x ∈ l, x < 10) : bytesOf (bstr l) = ds l := by
 refine bytesOf_str _ (fun x hx => ?_)
 have := isD_iff.1 (List.all_eq_true.1 (ds_isD l h) x hx)
 omega
theorem ds_len (l : List Nat) : (ds l).length = l.length := by unfold ds; rw [List.length_map]
theorem fdig_val : ∀ (d r q : Nat), r < q → (r * 10 ^ d) % q = 0 → dv 0 (ds (fdig d r q)) * (q : Int) = (r : Int) * 10 ^ (fdig d r q).length
 | 0, r, q, hr, hm => by
  have h0 : r = 0 := by rw [Nat.pow_zero, Nat.mul_one, Nat.mod_eq_of_lt hr] at hm; exact hm
  subst h0
  simp [fdig, ds, dv]
 | d + 1, r, q, hr, hm => by
  rw [fdig]
  by_cases h0 : r = 0
  ·rw [if_pos h0, h0]; simp [ds, dv]
  ·rw [if_neg h0]
   have hrm : (10 * r % q) * 10 ^ d % q = 0 := by
    rw [← hm, Nat.pow_succ, Nat.mod_mul_mod]
    congr 1
    rw [Nat.mul_comm 10 r, Nat.mul_assoc, Nat.mul_comm 10]
   have ih := fdig_val d (10 * r % q) q (Nat.mod_lt _ (by omega)) hrm
   have hdm : q * (10 * r / q) + 10 * r % q = 10 * r := Nat.div_add_mod _ _
   have hdm' : (q : Int) * ((10 * r / q : Nat) : Int) + ((10 * r % q : Nat) : Int) = 10 * (r : Int) := by
    have := congrArg (fun n : Nat => (n : Int)) hdm
    simpa using this
   generalize fdig d (10 * r % q) q = L at ih ⊢
   generalize 10 * r % q = r' at *
   generalize 10 * r / q = a at *
   have e : ds (a :: L) = (48 + (a : Int)) :: ds L := rfl
   rw [e, dv, dv_acc, ds_len, List.length_cons, Int.pow_succ]
   generalize (10 : Int) ^ L.length = p at *
   generalize dv 0 (ds L) = V at *
   have e2 : ((10 * 0 + (48 + (a : Int) - 48)) * p + V) * (q : Int) = ((q : Int) * (a : Int)) * p + V * (q : Int) := by grind
   rw [e2, ih]
   have e3 : (q : Int) * (a : Int) * p + (r' : Int) * p = ((q : Int) * (a : Int) + (r' : Int)) * p := by grind
   rw [e3, hdm']; grind
theorem bstr_cons (x : ByteArray) (a : Nat) (l : List Nat) (ha : a < 10) (hl : ∀ y ∈ l, y < 10) : (x ++ num a) ++ bstr l = x ++ bstr (a :: l) := by
 apply bytesOf_inj
 rw [bytesOf_app, bytesOf_app, bytesOf_app, ds_bytes l hl, ds_bytes (a :: l) (by intro y hy; rcases List.mem_cons.1 hy with rfl | hy; exact ha; exact hl y hy), num_small ha, dig_bytes, Nat.mod_eq_of_lt ha, List.append_assoc]
 rfl

theorem spec_gcd_l : ∀ (n : Nat) (a b : Int), b.natAbs ≤ n → -4611686018427387904 ≤ a → a ≤ 4611686018427387904 → -4611686018427387904 ≤ b → b ≤ 4611686018427387904 →
  Ev (fun k => spec_l2Gcd.l0 k a b) (Int.gcd a b : Int) := by
 intro n
 induction n with
 | zero =>
  intro a b hn h1 h2 _ _
  have hb : b = 0 := by omega
  subst hb
  refine Ev.step (fun k => by rw [spec_l2Gcd.l0]) ?_
  simp only [if_true]
  refine ev_const fun k => ?_
  rw [w64 (by omega) (by omega), Int.gcd_zero_right]
  unfold mx
  congr 1
  split <;> omega
 | succ n ih =>
  intro a b hn h1 h2 h3 h4
  refine Ev.step (fun k => by rw [spec_l2Gcd.l0]) ?_
  by_cases hb : b = 0
  ·subst hb
   simp only [if_true]
   refine ev_const fun k => ?_
   rw [w64 (by omega) (by omega), Int.gcd_zero_right]
   unfold mx
   congr 1
   split <;> omega
  ·simp only [if_neg hb]
   have hm := Int.natAbs_tmod a b
   have hlt : a.natAbs % b.natAbs < b.natAbs := Nat.mod_lt _ (by omega)
   have hle : a.natAbs % b.natAbs ≤ a.natAbs := Nat.mod_le _ _
   have := ih b (Int.tmod a b) (by omega) h3 h4 (by omega) (by omega)
   rw [gcd_step] at this
   exact this

theorem spec_fv (a b : Int) : Ev (fun k => spec_FractionValid.f k a b) (fv a b) := by
 unfold spec_FractionValid.f spec_l1In.f fv
 by_cases h1 : a ≥ -1000000000
 ·by_cases h2 : a ≤ 1000000000
  ·by_cases h3 : b ≥ 1
   ·by_cases h4 : b ≤ 1000000
    ·simp only [if_pos h1, if_pos h3, decide_eq_true h2, decide_eq_true h4, Option.bind_some, if_true]
     refine ev_bind (spec_gcd_l _ a b (Nat.le_refl _) (by omega) (by omega) (by omega) (by omega)) (ev_const fun k => ?_)
     congr 1
     rw [Bool.eq_iff_iff]
     simp only [beq_iff_eq, decide_eq_true_eq]
     exact ⟨fun h => ⟨h1, h2, h3, h4, by omega⟩, fun h => by have := h.2.2.2.2; omega⟩
    ·simp only [if_pos h1, if_pos h3, decide_eq_true h2, decide_eq_false h4, Option.bind_some, if_true, Bool.false_eq_true, if_false]
     refine ev_const fun k => ?_
     congr 1
     symm; exact decide_eq_false (fun h => by obtain ⟨q1, q2, q3, q4, _⟩ := h; omega)
   ·simp only [if_pos h1, if_neg h3, decide_eq_true h2, Option.bind_some, if_true, Bool.false_eq_true, if_false]
    refine ev_const fun k => ?_
    congr 1
    symm; exact decide_eq_false (fun h => by obtain ⟨q1, q2, q3, q4, _⟩ := h; omega)
  ·simp only [if_pos h1, decide_eq_false h2, Option.bind_some, Bool.false_eq_true, if_false]
   refine ev_const fun k => ?_
   congr 1
   symm; exact decide_eq_false (fun h => by obtain ⟨q1, q2, q3, q4, _⟩ := h; omega)
 ·simp only [if_neg h1, Option.bind_some, Bool.false_eq_true, if_false]
  refine ev_const fun k => ?_
  congr 1
  symm; exact decide_eq_false (fun h => by obtain ⟨q1, q2, q3, q4, _⟩ := h; omega)

theorem impl_gcd_l : ∀ (n : Nat) (a b : Int), b.natAbs ≤ n → 0 ≤ a → 0 ≤ b →
  Ev (fun k => impl_divisor.l0 k a b) (Int.gcd a b : Int) := by
 intro n
 induction n with
 | zero =>
  intro a b hn h1 h2
  have hb : b = 0 := by omega
  subst hb
  refine Ev.step (fun k => by rw [impl_divisor.l0]) ?_
  simp only [if_true]
  refine ev_const fun k => ?_
  rw [Int.gcd_zero_right]
  congr 1
  omega
 | succ n ih =>
  intro a b hn h1 h2
  refine Ev.step (fun k => by rw [impl_divisor.l0]) ?_
  by_cases hb : b = 0
  ·subst hb
   simp only [if_true]
   refine ev_const fun k => ?_
   rw [Int.gcd_zero_right]
   congr 1
   omega
  ·simp only [if_neg hb]
   have hm := tmod_nn a b h1 (by omega)
   have hm' := Int.natAbs_tmod a b
   have hlt : a.natAbs % b.natAbs < b.natAbs := Nat.mod_lt _ (by omega)
   have := ih b (Int.tmod a b) (by omega) h2 (by omega)
   rw [gcd_step] at this
   exact this

theorem impl_fv (a b : Int) : Ev (fun k => impl_FractionValid.f k a b) (fv a b) := by
 unfold impl_FractionValid.f impl_in.f impl_divisor.f fv
 by_cases h1 : a ≥ -1000000000
 ·by_cases h2 : a ≤ 1000000000
  ·by_cases h3 : b ≥ 1
   ·by_cases h4 : b ≤ 1000000
    ·simp only [if_pos h1, if_pos h3, decide_eq_true h2, decide_eq_true h4, Option.bind_some, if_true, mx_abs a (by omega) (by omega)]
     refine ev_bind (impl_gcd_l _ _ b (Nat.le_refl _) (by omega) (by omega)) (ev_const fun k => ?_)
     rw [gcd_natAbs]
     congr 1
     rw [Bool.eq_iff_iff]
     simp only [beq_iff_eq, decide_eq_true_eq]
     exact ⟨fun h => ⟨h1, h2, h3, h4, by omega⟩, fun h => by have := h.2.2.2.2; omega⟩
    ·simp only [if_pos h1, if_pos h3, decide_eq_true h2, decide_eq_false h4, Option.bind_some, if_true, Bool.false_eq_true, if_false]
     refine ev_const fun k => ?_
     congr 1
     symm; exact decide_eq_false (fun h => by obtain ⟨q1, q2, q3, q4, _⟩ := h; omega)
   ·simp only [if_pos h1, if_neg h3, decide_eq_true h2, Option.bind_some, if_true, Bool.false_eq_true, if_false]
    refine ev_const fun k => ?_
    congr 1
    symm; exact decide_eq_false (fun h => by obtain ⟨q1, q2, q3, q4, _⟩ := h; omega)
  ·simp only [if_pos h1, decide_eq_false h2, Option.bind_some, Bool.false_eq_true, if_false]
   refine ev_const fun k => ?_
   congr 1
   symm; exact decide_eq_false (fun h => by obtain ⟨q1, q2, q3, q4, _⟩ := h; omega)
 ·simp only [if_neg h1, Option.bind_some, Bool.false_eq_true, if_false]
  refine ev_const fun k => ?_
  congr 1
  symm; exact decide_eq_false (fun h => by obtain ⟨q1, q2, q3, q4, _⟩ := h; omega)

theorem bstr_nil (x : ByteArray) : x ++ bstr [] = x := by
 apply bytesOf_inj; rw [bytesOf_app, ds_bytes [] (by intro x h; cases h)]; show bytesOf x ++ [] = bytesOf x; exact List.append_nil _
theorem ft_end (a0 : Int) (q : Nat) (x : ByteArray) : Ev (fun k => spec_FractionText.l0 k x ((0 : Nat) : Int) a0 (q : Int)) x ∧ Ev (fun k => impl_FractionText.l0 k x ((0 : Nat) : Int) a0 (q : Int)) x := by
 refine ⟨?_, ?_⟩
 ·refine Ev.step (fun k => by rw [spec_FractionText.l0]) ?_
  simp only [if_neg (show ¬ ((0 : Nat) : Int) > 0 by omega)]; exact Ev.now _
 ·refine Ev.step (fun k => by rw [impl_FractionText.l0]) ?_
  simp only [if_neg (show ¬ ((0 : Nat) : Int) > 0 by omega)]; exact Ev.now _
theorem ft_round (a0 : Int) (q r : Nat) (hq' : q ≤ 1000000) (hr : r < q) (h0 : 0 < r) (x : ByteArray) (hx : x.size ≤ 1000) (R : ByteArray) :
  (Ev (fun k => spec_FractionText.l0 k (x ++ num (10 * r / q)) ((10 * r % q : Nat) : Int) a0 (q : Int)) R → Ev (fun k => spec_FractionText.l0 k x (r : Int) a0 (q : Int)) R) ∧
  (Ev (fun k => impl_FractionText.l0 k (x ++ num (10 * r / q)) ((10 * r % q : Nat) : Int) a0 (q : Int)) R → Ev (fun k => impl_FractionText.l0 k x (r : Int) a0 (q : Int)) R) := by
 have hdl : 10 * r / q < 10 := by rw [Nat.div_lt_iff_lt_mul (by omega)]; omega
 have hsz : (num (10 * r / q)).size = 1 := by rw [num_small hdl, dig_size]
 have w1 : wrap64 (10 * (r : Int)) = ((10 * r : Nat) : Int) := by rw [w64 (by omega) (by omega)]; omega
 have w2 : wrap64 ((r : Int) * 10) = ((10 * r : Nat) : Int) := by rw [w64 (by omega) (by omega)]; omega
 have w3 : wrap64 (Int.tdiv ((10 * r : Nat) : Int) (q : Int)) = ((10 * r / q : Nat) : Int) := by
  rw [Int.tdiv_eq_ediv_of_nonneg (by omega), ← Int.natCast_ediv]
  generalize 10 * r / q = z at hdl
  exact w64n (by omega)
 have w4 : Int.tmod ((10 * r : Nat) : Int) (q : Int) = ((10 * r % q : Nat) : Int) := by
  rw [Int.tmod_eq_emod_of_nonneg (by omega), ← Int.natCast_emod]
 have hit : strconv_Itoa.f ((10 * r / q : Nat) : Int) = some (num (10 * r / q)) := by
  generalize 10 * r / q = z at hdl
  exact itoa_num z (by omega)
 have hnu : Ev (fun k => spec_l2Number.f k ((10 * r / q : Nat) : Int)) (num (10 * r / q)) := by
  generalize 10 * r / q = z at hdl
  exact number z (by omega)
 have hp : (r : Int) > 0 := by omega
 have hn : ¬ (q : Int) = 0 := by omega
 have hs : x.size + 1 ≤ 9223372036854775807 := by omega
 generalize 10 * r / q = z at *
 generalize 10 * r % q = r' at *
 generalize ((10 * r : Nat) : Int) = y at *
 refine ⟨fun h => ?_, fun h => ?_⟩
 ·refine Ev.step (fun k => by rw [spec_FractionText.l0]) ?_
  simp only [if_pos hp, if_neg hn, w1, w3, w4]
  refine ev_bind hnu ?_
  simp only [hsz, if_pos hs]
  exact h
 ·refine Ev.step (fun k => by rw [impl_FractionText.l0]) ?_
  simp only [if_pos hp, if_neg hn, w2, w3, w4]
  refine ev_bind (ev_const fun k => hit) ?_
  simp only [hsz, if_pos hs]
  exact h
theorem ft_loop (a0 : Int) (q : Nat) (hq' : q ≤ 1000000) : ∀ (d r : Nat) (x : ByteArray), r < q → (r * 10 ^ d) % q = 0 → d ≤ 6 → x.size + 30 * d ≤ 1000 →
  Ev (fun k => spec_FractionText.l0 k x (r : Int) a0 (q : Int)) (x ++ bstr (fdig d r q)) ∧ Ev (fun k => impl_FractionText.l0 k x (r : Int) a0 (q : Int)) (x ++ bstr (fdig d r q))
 | 0, r, x, hr, hm, _, _ => by
  have h0 : r = 0 := by rw [Nat.pow_zero, Nat.mul_one, Nat.mod_eq_of_lt hr] at hm; exact hm
  subst h0
  rw [show fdig 0 0 q = [] from rfl, bstr_nil]
  exact ft_end a0 q x
 | d + 1, r, x, hr, hm, hd, hx => by
  rcases Nat.eq_zero_or_pos r with h0 | h0
  ·subst h0
   rw [show fdig (d + 1) 0 q = [] from by rw [fdig, if_pos rfl], bstr_nil]
   exact ft_end a0 q x
  ·have hrm : (10 * r % q) * 10 ^ d % q = 0 := by
    rw [← hm, Nat.pow_succ, Nat.mod_mul_mod]
    congr 1
    rw [Nat.mul_comm 10 r, Nat.mul_assoc, Nat.mul_comm 10]
   clear hm
   have hq : 0 < q := Nat.lt_of_le_of_lt (Nat.zero_le _) hr
   have hdl : 10 * r / q < 10 := by rw [Nat.div_lt_iff_lt_mul hq]; omega
   have hsz : (num (10 * r / q)).size = 1 := by rw [num_small hdl, dig_size]
   have hx2 : (x ++ num (10 * r / q)).size + 30 * d ≤ 1000 := by rw [ByteArray.size_append, hsz]; omega
   have hx3 : x.size ≤ 1000 := by omega
   have ih := ft_loop a0 q hq' d (10 * r % q) (x ++ num (10 * r / q)) (Nat.mod_lt _ hq) hrm (Nat.le_of_succ_le hd) hx2
   rw [bstr_cons x _ _ hdl (fdig_lt d _ q (Nat.mod_lt _ hq))] at ih
   rw [show fdig (d + 1) r q = (10 * r / q) :: fdig d (10 * r % q) q by rw [fdig, if_neg (Nat.pos_iff_ne_zero.1 h0)]]
   have hro := ft_round a0 q r hq' hr h0 x hx3 (x ++ bstr ((10 * r / q) :: fdig d (10 * r % q) q))
   exact ⟨hro.1 ih.1, hro.2 ih.2⟩
/-- the text behind the sign. -/
def ftj (x : ByteArray) (t q : Nat) : ByteArray :=
 if 1000000 % q = 0 then (if t % q > 0 then ((x ++ num (t / q)) ++ (⟨#[46]⟩ : ByteArray)) ++ bstr (fdig 6 (t % q) q) else x ++ num (t / q))
 else ((x ++ num t) ++ (⟨#[47]⟩ : ByteArray)) ++ num q
theorem ft_j0 (a0 : Int) (q t : Nat) (hq : 1 ≤ q) (hq' : q ≤ 1000000) (ht : t ≤ 1000000000) (x : ByteArray) (hx : x.size ≤ 1) :
  Ev (fun k => spec_FractionText.j0 k x (t : Int) a0 (q : Int)) (ftj x t q) ∧ Ev (fun k => impl_FractionText.j0 k x (t : Int) a0 (q : Int)) (ftj x t q) := by
 have z1 : (num t).size ≤ 10 := num_size 9 t (by omega)
 have z2 : (num q).size ≤ 10 := num_size 9 q (by omega)
 have hdv : t / q ≤ t := Nat.div_le_self _ _
 have z3 : (num (t / q)).size ≤ 10 := num_size 9 (t / q) (by omega)
 have s47 : (⟨#[47]⟩ : ByteArray).size = 1 := rfl
 have s46 : (⟨#[46]⟩ : ByteArray).size = 1 := rfl
 have w3 : wrap64 (Int.tdiv (t : Int) (q : Int)) = ((t / q : Nat) : Int) := by
  rw [Int.tdiv_eq_ediv_of_nonneg (by omega), ← Int.natCast_ediv, w64n (by omega)]
 have w4 : Int.tmod (t : Int) (q : Int) = ((t % q : Nat) : Int) := by
  rw [Int.tmod_eq_emod_of_nonneg (by omega), ← Int.natCast_emod]
 by_cases hm : (1000000 : Int) % (q : Int) = 0
 ·have hmn : 1000000 % q = 0 := by
   have : ((1000000 % q : Nat) : Int) = 0 := by rw [Int.natCast_emod]; exact hm
   omega
  have hlp : (t % q * 10 ^ 6) % q = 0 := by
   rw [Nat.mod_mul_mod, Nat.mul_mod, show 10 ^ 6 = 1000000 from rfl, hmn, Nat.mul_zero, Nat.zero_mod]
  have hrq : t % q < q := Nat.mod_lt _ (by omega)
  by_cases hr : t % q > 0
  ·rw [show ftj x t q = ((x ++ num (t / q)) ++ (⟨#[46]⟩ : ByteArray)) ++ bstr (fdig 6 (t % q) q) by unfold ftj; rw [if_pos hmn, if_pos hr]]
   obtain ⟨h1, h2⟩ := ft_loop a0 q hq' 6 (t % q) ((x ++ num (t / q)) ++ (⟨#[46]⟩ : ByteArray)) hrq hlp (by omega) (by rw [ByteArray.size_append, ByteArray.size_append, s46]; omega)
   refine ⟨?_, ?_⟩
   ·refine Ev.step (fun k => by rw [spec_FractionText.j0]) ?_
    simp only [if_neg (show ¬ (q : Int) = 0 by omega), if_pos hm, w3, w4]
    refine ev_bind (number (t / q) (by omega)) ?_
    simp only [if_pos (show x.size + (num (t / q)).size ≤ 9223372036854775807 by omega), if_pos (show ((t % q : Nat) : Int) > 0 by omega), ByteArray.size_append, if_pos (show x.size + (num (t / q)).size + 1 ≤ 9223372036854775807 by omega)]
    refine Ev.step (fun k => by rw [spec_FractionText.j1]) ?_
    exact h1
   ·refine Ev.step (fun k => by rw [impl_FractionText.j0]) ?_
    simp only [if_neg (show ¬ (q : Int) = 0 by omega), if_pos hm, w3, w4]
    refine ev_bind (ev_const fun k => itoa_num (t / q) (by omega)) ?_
    simp only [if_pos (show x.size + (num (t / q)).size ≤ 9223372036854775807 by omega), if_pos (show ((t % q : Nat) : Int) > 0 by omega), ByteArray.size_append, if_pos (show x.size + (num (t / q)).size + 1 ≤ 9223372036854775807 by omega)]
    refine Ev.step (fun k => by rw [impl_FractionText.j1]) ?_
    exact h2
  ·rw [show ftj x t q = x ++ num (t / q) by unfold ftj; rw [if_pos hmn, if_neg hr]]
   obtain ⟨h1, h2⟩ := ft_loop a0 q hq' 6 (t % q) (x ++ num (t / q)) hrq hlp (by omega) (by rw [ByteArray.size_append]; omega)
   rw [show fdig 6 (t % q) q = [] by rw [fdig, if_pos (by omega)], bstr_nil] at h1 h2
   refine ⟨?_, ?_⟩
   ·refine Ev.step (fun k => by rw [spec_FractionText.j0]) ?_
    simp only [if_neg (show ¬ (q : Int) = 0 by omega), if_pos hm, w3, w4]
    refine ev_bind (number (t / q) (by omega)) ?_
    simp only [if_pos (show x.size + (num (t / q)).size ≤ 9223372036854775807 by omega), if_neg (show ¬ ((t % q : Nat) : Int) > 0 by omega)]
    refine Ev.step (fun k => by rw [spec_FractionText.j1]) ?_
    exact h1
   ·refine Ev.step (fun k => by rw [impl_FractionText.j0]) ?_
    simp only [if_neg (show ¬ (q : Int) = 0 by omega), if_pos hm, w3, w4]
    refine ev_bind (ev_const fun k => itoa_num (t / q) (by omega)) ?_
    simp only [if_pos (show x.size + (num (t / q)).size ≤ 9223372036854775807 by omega), if_neg (show ¬ ((t % q : Nat) : Int) > 0 by omega)]
    refine Ev.step (fun k => by rw [impl_FractionText.j1]) ?_
    exact h2
 ·have hmn : ¬ 1000000 % q = 0 := fun e => hm (by rw [show (1000000 : Int) % (q : Int) = ((1000000 % q : Nat) : Int) from by rw [Int.natCast_emod]; rfl, e]; rfl)
  rw [show ftj x t q = ((x ++ num t) ++ (⟨#[47]⟩ : ByteArray)) ++ num q by unfold ftj; rw [if_neg hmn]]
  refine ⟨?_, ?_⟩
  ·refine Ev.step (fun k => by rw [spec_FractionText.j0]) ?_
   simp only [if_neg (show ¬ (q : Int) = 0 by omega), if_neg hm]
   refine ev_bind (number t (by omega)) ?_
   simp only [if_pos (show x.size + (num t).size ≤ 9223372036854775807 by omega), ByteArray.size_append, s47, if_pos (show x.size + (num t).size + 1 ≤ 9223372036854775807 by omega)]
   refine ev_bind (number q (by omega)) ?_
   simp only [if_pos (show x.size + (num t).size + 1 + (num q).size ≤ 9223372036854775807 by omega)]
   exact Ev.now _
  ·refine Ev.step (fun k => by rw [impl_FractionText.j0]) ?_
   simp only [if_neg (show ¬ (q : Int) = 0 by omega), if_neg hm]
   refine ev_bind (ev_const fun k => itoa_num t (by omega)) ?_
   simp only [if_pos (show x.size + (num t).size ≤ 9223372036854775807 by omega), ByteArray.size_append, s47, if_pos (show x.size + (num t).size + 1 ≤ 9223372036854775807 by omega)]
   refine ev_bind (ev_const fun k => itoa_num q (by omega)) ?_
   simp only [if_pos (show x.size + (num t).size + 1 + (num q).size ≤ 9223372036854775807 by omega)]
   exact Ev.now _
/-- the text of a fraction. -/
def ftx (a b : Int) : ByteArray := if fv a b = true then ftj (if a < 0 then (⟨#[45]⟩ : ByteArray) else (⟨#[]⟩ : ByteArray)) a.natAbs b.natAbs else (⟨#[]⟩ : ByteArray)
theorem ft (a b : Int) : Ev (fun k => spec_FractionText.f k a b) (ftx a b) ∧ Ev (fun k => impl_FractionText.f k a b) (ftx a b) := by
 unfold ftx
 cases hv : fv a b with
 | false =>
  simp only [Bool.false_eq_true, if_false]
  refine ⟨?_, ?_⟩
  ·unfold spec_FractionText.f
   refine ev_bind (spec_fv a b) ?_
   simp only [hv, Bool.false_eq_true, if_false]; exact Ev.now _
  ·unfold impl_FractionText.f
   refine ev_bind (impl_fv a b) ?_
   simp only [hv, Bool.false_eq_true, if_false]; exact Ev.now _
 | true =>
  obtain ⟨g1, g2, g3, g4, _⟩ := fv_iff.1 hv
  obtain ⟨q, rfl⟩ := Int.eq_ofNat_of_zero_le (show 0 ≤ b by omega)
  simp only [if_true, Int.natAbs_natCast]
  by_cases hn : a < 0
  ·obtain ⟨t, ht⟩ := Int.eq_ofNat_of_zero_le (show 0 ≤ -a by omega)
   obtain ⟨h1, h2⟩ := ft_j0 a q t (by omega) (by omega) (by omega) (⟨#[45]⟩ : ByteArray) (Nat.le_refl _)
   rw [show a.natAbs = t by omega]
   simp only [if_pos hn]
   have hw : wrap64 (-a) = (t : Int) := by rw [w64 (by omega) (by omega)]; exact ht
   refine ⟨?_, ?_⟩
   ·unfold spec_FractionText.f
    refine ev_bind (spec_fv a q) ?_
    simp only [hv, if_true, if_pos hn, hw]; exact h1
   ·unfold impl_FractionText.f
    refine ev_bind (impl_fv a q) ?_
    simp only [hv, if_true, if_pos hn, hw]; exact h2
  ·obtain ⟨t, rfl⟩ := Int.eq_ofNat_of_zero_le (show 0 ≤ a by omega)
   obtain ⟨h1, h2⟩ := ft_j0 (t : Int) q t (by omega) (by omega) (by omega) (⟨#[]⟩ : ByteArray) (Nat.zero_le _)
   rw [show (t : Int).natAbs = t from Int.natAbs_natCast t]
   simp only [if_neg hn]
   refine ⟨?_, ?_⟩
   ·unfold spec_FractionText.f
    refine ev_bind (spec_fv t q) ?_
    simp only [hv, if_true, if_neg hn]; exact h1
   ·unfold impl_FractionText.f
    refine ev_bind (impl_fv t q) ?_
    simp only [hv, if_true, if_neg hn]; exact h2

def B (n : Nat) : List Int := bytesOf (num n)
def lead : Nat → List Int → Nat
 | 0, _ => 0
 | _ + 1, [] => 0
 | m + 1, x :: l => if isD x = true then lead m l + 1 else 0
theorem lead_le : ∀ (m : Nat) (l : List Int), lead m l ≤ m ∧ lead m l ≤ l.length
 | 0, l => ⟨Nat.le_refl _, Nat.zero_le _⟩
 | m + 1, [] => ⟨Nat.zero_le _, Nat.le_refl _⟩
 | m + 1, x :: l => by
  have := lead_le m l
  rw [lead, List.length_cons]
  split <;> omega
theorem lead_all : ∀ (m : Nat) (l : List Int), (l.take (lead m l)).all isD = true
 | 0, l => by rw [lead]; rfl
 | m + 1, [] => by rw [lead]; rfl
 | m + 1, x :: l => by
  rw [lead]
  by_cases h : isD x = true
  ·rw [if_pos h, List.take_succ_cons, List.all_cons, h, lead_all m l]; rfl
  ·rw [if_neg h]; rfl
theorem lead_full : ∀ {m : Nat} {l : List Int}, l.all isD = true → l.length ≤ m → lead m l = l.length
 | 0, [], _, _ => rfl
 | 0, _ :: _, _, h => by rw [List.length_cons] at h; omega
 | m + 1, [], _, _ => rfl
 | m + 1, x :: l, h, hl => by
  rw [List.all_cons, Bool.and_eq_true] at h
  rw [List.length_cons] at hl
  rw [lead, if_pos h.1, lead_full h.2 (by omega), List.length_cons]
theorem lead_app {c : Int} (hc : isD c = false) : ∀ {m : Nat} {w : List Int} (r : List Int), lead m (w ++ c :: r) = lead m w
 | 0, _, _ => by rw [lead, lead]
 | m + 1, [], r => by
  show (if isD c = true then lead m r + 1 else 0) = 0
  exact if_neg (by rw [hc]; decide)
 | m + 1, x :: w, r => by rw [List.cons_append, lead, lead, lead_app hc r]
def body (t q : Nat) : List Int :=
 if 1000000 % q = 0 then (if t % q > 0 then B (t / q) ++ 46 :: ds (fdig 6 (t % q) q) else B (t / q)) else B t ++ 47 :: B q
def sg (a : Int) : List Int := if a < 0 then [45] else []
theorem ftx_bytes {a b : Int} (h : FV a b) : bytesOf (ftx a b) = sg a ++ body a.natAbs b.natAbs := by
 have hs : bytesOf (if a < 0 then (⟨#[45]⟩ : ByteArray) else (⟨#[]⟩ : ByteArray)) = sg a := by
  unfold sg; split <;> rfl
 have hq : 0 < b.natAbs := by have := h.2.2.1; omega
 unfold ftx ftj body B
 rw [if_pos (fv_iff.2 h)]
 split
 ·split
  ·rw [bytesOf_app, bytesOf_app, bytesOf_app, hs, ds_bytes _ (fdig_lt 6 _ _ (Nat.mod_lt _ hq)), List.append_assoc, List.append_assoc]; rfl
  ·rw [bytesOf_app, hs]
 ·rw [bytesOf_app, bytesOf_app, bytesOf_app, hs, List.append_assoc, List.append_assoc]; rfl
theorem ftx_none {a b : Int} (h : ¬ FV a b) : ftx a b = (⟨#[]⟩ : ByteArray) := by
 unfold ftx; exact if_neg (fun e => h (fv_iff.1 e))
theorem B_digs (n d : Nat) (h : n < 10 ^ (d + 1)) : digs (B n) 1 (d + 1) = true := digs_iff.2 ⟨num_isD n, num_pos n, num_len d h⟩
theorem tail_digs (t q : Nat) (hq : 0 < q) (hr : 0 < t % q) : digs (ds (fdig 6 (t % q) q)) 1 6 = true :=
 digs_iff.2 ⟨ds_isD _ (fdig_lt 6 _ _ (Nat.mod_lt _ hq)), by rw [ds_len]; exact fdig_pos 5 _ _ hr, by rw [ds_len]; exact fdig_len 6 _ _⟩
/-- a body starts with a digit. -/
theorem body_head (t q : Nat) : ∃ x l, body t q = x :: l ∧ isD x = true := by
 have hB : ∀ n, ∃ x l, B n = x :: l ∧ isD x = true := by
  intro n
  have h1 := num_pos n
  have h2 := num_isD n
  unfold B
  match h : bytesOf (num n), h1, h2 with
  | x :: l, _, h2 => rw [List.all_cons, Bool.and_eq_true] at h2; exact ⟨x, l, rfl, h2.1⟩
 unfold body
 split
 ·split
  ·obtain ⟨x, l, h, hx⟩ := hB (t / q); exact ⟨x, _, by rw [h]; rfl, hx⟩
  ·exact hB _
 ·obtain ⟨x, l, h, hx⟩ := hB t; exact ⟨x, _, by rw [h]; rfl, hx⟩
def bodyI (l : List Int) : Int × Int × Bool :=
 if fst 47 l < l.length then (if (digs (l.take (fst 47 l)) 1 10 && digs (l.drop (fst 47 l + 1)) 1 7) = true then (dv 0 (l.take (fst 47 l)), dv 0 (l.drop (fst 47 l + 1)), true) else noF)
 else decOf l
def candS (l : List Int) : Int × Int :=
 if (decOf l).2.2 = true then ((decOf l).1, (decOf l).2.1)
 else if 0 < lead 10 l ∧ lead 10 l = l.length then (dv 0 (l.take (lead 10 l)), 1)
 else if 0 < lead 10 l ∧ lead 10 l < l.length ∧ l.getD (lead 10 l) 0 = 47 then
  (if lead 10 l + 1 + lead 7 (l.drop (lead 10 l + 1)) = l.length ∧ 0 < dv 0 ((l.drop (lead 10 l + 1)).take (lead 7 (l.drop (lead 10 l + 1)))) then
   (dv 0 (l.take (lead 10 l)), dv 0 ((l.drop (lead 10 l + 1)).take (lead 7 (l.drop (lead 10 l + 1))))) else (0, 0))
 else (0, 0)
/-- the decimal text of a fraction reads as the fraction. -/
theorem decOf_body {t q : Nat} (h : FV (t : Int) (q : Int)) (hm : 1000000 % q = 0) : decOf (body t q) = ((t : Int), (q : Int), true) := by
 obtain ⟨g1, g2, g3, g4, g5⟩ := h
 have hq : 0 < q := by omega
 have hdv : t / q ≤ t := Nat.div_le_self _ _
 have hdm : q * (t / q) + t % q = t := Nat.div_add_mod t q
 have hdm' : (q : Int) * ((t / q : Nat) : Int) + ((t % q : Nat) : Int) = (t : Int) := by
  have := congrArg (fun n : Nat => (n : Int)) hdm
  simpa using this
 unfold body
 rw [if_pos hm]
 by_cases hr : t % q > 0
 ·rw [if_pos hr, decOf_point (B_digs _ 9 (by omega)) (tail_digs t q hq hr)]
  have hlp : (t % q * 10 ^ 6) % q = 0 := by
   rw [Nat.mod_mul_mod, Nat.mul_mod, show 10 ^ 6 = 1000000 from rfl, hm, Nat.mul_zero, Nat.zero_mod]
  have hv := fdig_val 6 (t % q) q (Nat.mod_lt _ hq) hlp
  refine mk_true (pow10_pos _) ⟨g1, g2, g3, g4, g5⟩ ?_
  have e : dv 0 (B (t / q) ++ ds (fdig 6 (t % q) q)) = ((t / q : Nat) : Int) * 10 ^ (ds (fdig 6 (t % q) q)).length + dv 0 (ds (fdig 6 (t % q) q)) := by
   rw [dv_app, show dv 0 (B (t / q)) = _ from dv_num _, dv_acc]
  rw [e, ds_len]
  generalize (10 : Int) ^ (fdig 6 (t % q) q).length = p at *
  generalize dv 0 (ds (fdig 6 (t % q) q)) = V at *
  generalize ((t / q : Nat) : Int) = u at *
  generalize ((t % q : Nat) : Int) = v at *
  rw [← hdm']
  have e2 : (u * p + V) * (q : Int) = u * p * (q : Int) + V * (q : Int) := by grind
  rw [e2, hv]; grind
 ·rw [if_neg hr, decOf_whole (B_digs _ 9 (by omega)), show dv 0 (B (t / q)) = _ from dv_num _]
  refine mk_true (by omega) ⟨g1, g2, g3, g4, g5⟩ ?_
  have : ((t % q : Nat) : Int) = 0 := by omega
  rw [Int.mul_one, Int.mul_comm]; omega
theorem bodyI_body {t q : Nat} (h : FV (t : Int) (q : Int)) : bodyI (body t q) = ((t : Int), (q : Int), true) := by
 have hq : 0 < q := by have := h.2.2.1; omega
 have ht : t ≤ 1000000000 := by have := h.2.1; omega
 have hq2 : q ≤ 1000000 := by have := h.2.2.2.1; omega
 by_cases hm : 1000000 % q = 0
 ·have hn : ∀ x ∈ body t q, x ≠ 47 := by
   intro x hx e
   subst e
   unfold body at hx
   rw [if_pos hm] at hx
   have hB : ∀ n, 47 ∉ B n := fun n hx => all_ne (num_isD n) d47 47 hx rfl
   split at hx
   ·rcases List.mem_append.1 hx with h | h
    ·exact hB _ h
    ·rcases List.mem_cons.1 h with h | h
     ·omega
     ·exact all_ne (ds_isD _ (fdig_lt 6 _ _ (Nat.mod_lt _ hq))) d47 47 h rfl
   ·exact hB _ hx
  unfold bodyI
  rw [if_neg (by rw [fst_none hn]; omega)]
  exact decOf_body h hm
 ·unfold bodyI body
  rw [if_neg hm]
  have e1 : (B t ++ 47 :: B q).take (B t).length = B t := by simp
  have e2 : (B t ++ 47 :: B q).drop ((B t).length + 1) = B q := by
   rw [List.drop_append]; simp
  have hB : ∀ x ∈ B t, x ≠ 47 := all_ne (num_isD t) d47
  rw [fst_app (w := B t) (B q) hB, e1, e2, B_digs t 9 (by omega), B_digs q 6 (by omega), if_pos (by simp), if_pos (show (true && true) = true from rfl), show dv 0 (B t) = _ from dv_num _, show dv 0 (B q) = _ from dv_num _]
theorem candS_body {t q : Nat} (h : FV (t : Int) (q : Int)) : candS (body t q) = ((t : Int), (q : Int)) := by
 have hq : 0 < q := by have := h.2.2.1; omega
 have ht : t ≤ 1000000000 := by have := h.2.1; omega
 have hq2 : q ≤ 1000000 := by have := h.2.2.2.1; omega
 by_cases hm : 1000000 % q = 0
 ·unfold candS
  rw [decOf_body h hm, if_pos rfl]
 ·have hb : body t q = B t ++ 47 :: B q := by unfold body; rw [if_neg hm]
  have hbad : decOf (body t q) = noF := decOf_bad (c := 47) (by rw [hb]; simp) (by omega) d47
  have hl1 : lead 10 (body t q) = (B t).length := by
   rw [hb, lead_app d47]; exact lead_full (num_isD t) (num_len 9 (by omega))
  have hl2 : (body t q).drop ((B t).length + 1) = B q := by rw [hb, List.drop_append]; simp
  have hl3 : lead 7 (B q) = (B q).length := lead_full (num_isD q) (num_len 6 (by omega))
  have hp : 0 < (B t).length := num_pos t
  have hlen : (body t q).length = (B t).length + 1 + (B q).length := by rw [hb]; simp; omega
  have hg : (body t q).getD (B t).length 0 = 47 := by rw [hb]; simp
  have htk : (body t q).take (B t).length = B t := by rw [hb]; simp
  unfold candS
  rw [hbad, hl1, hl2, hl3, hlen, hg, htk, List.take_of_length_le (Nat.le_refl _), show dv 0 (B t) = _ from dv_num _, show dv 0 (B q) = _ from dv_num _]
  rw [if_neg (show ¬ noF.2.2 = true by decide), if_neg (by omega), if_pos (by omega), if_pos (by omega)]
/-- the sign of a text, and what stands behind it. -/
def unsg (s : List Int) : List Int × Bool := match s with
 | [] => ([], false)
 | x :: l => if x = 45 then (l, true) else (x :: l, false)
theorem unsg_sg (a : Int) (t q : Nat) : unsg (sg a ++ body t q) = (body t q, decide (a < 0)) := by
 obtain ⟨x, l, h, hx⟩ := body_head t q
 unfold sg
 by_cases ha : a < 0
 ·rw [if_pos ha, decide_eq_true ha]; simp [unsg]
 ·rw [if_neg ha, decide_eq_false ha, List.nil_append, h, unsg, if_neg (isD_ne hx d45)]
def neg (m : Bool) (x : Int) : Int := if m = true then -x else x
def rdI (s : List Int) : Int × Int × Bool :=
 if (bodyI (unsg s).1).2.2 = true ∧ bytesOf (ftx (neg (unsg s).2 (bodyI (unsg s).1).1) (bodyI (unsg s).1).2.1) = s ∧ s ≠ [] then (neg (unsg s).2 (bodyI (unsg s).1).1, (bodyI (unsg s).1).2.1, true) else noF
def rdS (s : List Int) : Int × Int × Bool :=
 if bytesOf (ftx (neg (unsg s).2 (candS (unsg s).1).1) (candS (unsg s).1).2) = s ∧ s ≠ [] then (neg (unsg s).2 (candS (unsg s).1).1, (candS (unsg s).1).2, true) else noF
theorem fv_abs {a b : Int} (h : FV a b) : FV ((a.natAbs : Nat) : Int) ((b.natAbs : Nat) : Int) := by
 obtain ⟨g1, g2, g3, g4, g5⟩ := h
 refine ⟨by omega, by omega, by omega, by omega, ?_⟩
 rw [show ((b.natAbs : Nat) : Int) = b by omega, gcd_natAbs]; exact g5
theorem neg_abs (a : Int) : neg (decide (a < 0)) (a.natAbs : Int) = a := by
 unfold neg
 by_cases h : a < 0
 ·rw [decide_eq_true h, if_pos rfl]; omega
 ·rw [decide_eq_false h, if_neg (by decide)]; omega
theorem ftx_ne {a b : Int} (h : FV a b) : bytesOf (ftx a b) ≠ [] := by
 rw [ftx_bytes h]
 obtain ⟨x, l, hb, _⟩ := body_head a.natAbs b.natAbs
 rw [hb]; simp
theorem rdI_yes {a b : Int} (h : FV a b) : rdI (bytesOf (ftx a b)) = (a, b, true) := by
 have hn := ftx_ne h
 have e1 : unsg (bytesOf (ftx a b)) = (body a.natAbs b.natAbs, decide (a < 0)) := by rw [ftx_bytes h]; exact unsg_sg _ _ _
 have e2 := bodyI_body (fv_abs h)
 have hb : ((b.natAbs : Nat) : Int) = b := by have := h.2.2.1; omega
 unfold rdI
 rw [e1]
 simp only
 rw [e2]
 simp only
 rw [neg_abs, hb, if_pos (by first | exact ⟨rfl, rfl, hn⟩ | exact ⟨trivial, rfl, hn⟩)]
theorem rdS_yes {a b : Int} (h : FV a b) : rdS (bytesOf (ftx a b)) = (a, b, true) := by
 have hn := ftx_ne h
 have e1 : unsg (bytesOf (ftx a b)) = (body a.natAbs b.natAbs, decide (a < 0)) := by rw [ftx_bytes h]; exact unsg_sg _ _ _
 have e2 := candS_body (fv_abs h)
 have hb : ((b.natAbs : Nat) : Int) = b := by have := h.2.2.1; omega
 unfold rdS
 rw [e1]
 simp only
 rw [e2]
 simp only
 rw [neg_abs, hb, if_pos ⟨rfl, hn⟩]
theorem rd_no {a b : Int} {s : List Int} (h : bytesOf (ftx a b) = s) (hs : s ≠ []) : FV a b := by
 by_cases hf : FV a b
 ·exact hf
 ·rw [ftx_none hf] at h
  exact absurd h.symm hs
theorem rdI_cases (s : List Int) : rdI s = noF ∨ ∃ a b, FV a b ∧ bytesOf (ftx a b) = s ∧ rdI s = (a, b, true) := by
 unfold rdI
 by_cases h : (bodyI (unsg s).1).2.2 = true ∧ bytesOf (ftx (neg (unsg s).2 (bodyI (unsg s).1).1) (bodyI (unsg s).1).2.1) = s ∧ s ≠ []
 ·rw [if_pos h]
  exact .inr ⟨_, _, rd_no h.2.1 h.2.2, h.2.1, rfl⟩
 ·rw [if_neg h]; exact .inl rfl
theorem rdS_cases (s : List Int) : rdS s = noF ∨ ∃ a b, FV a b ∧ bytesOf (ftx a b) = s ∧ rdS s = (a, b, true) := by
 unfold rdS
 by_cases h : bytesOf (ftx (neg (unsg s).2 (candS (unsg s).1).1) (candS (unsg s).1).2) = s ∧ s ≠ []
 ·rw [if_pos h]
  exact .inr ⟨_, _, rd_no h.1 h.2, h.1, rfl⟩
 ·rw [if_neg h]; exact .inl rfl
theorem rd_same (s : List Int) : rdI s = rdS s := by
 rcases rdI_cases s with h | ⟨a, b, hf, rfl, h⟩
 ·rcases rdS_cases s with h' | ⟨a, b, hf, rfl, h'⟩
  ·rw [h, h']
  ·rw [rdI_yes hf] at h; cases h
 ·rw [h, rdS_yes hf]
theorem impl_mk_j (t b : Int) (ht : -4611686018427387904 ≤ t) (ht' : t ≤ 4611686018427387904) (hb : 0 < b) (hb' : b ≤ 4611686018427387904) : Ev (fun k => impl_reduced.j0 k t b) (mk t b) := by
 refine Ev.step (fun k => by rw [impl_reduced.j0]) ?_
 rw [mx_abs t ht ht']
 have hgg : Ev (fun k => impl_divisor.f k (t.natAbs : Int) b) (Int.gcd t b : Int) := by
  have := impl_gcd_l _ (t.natAbs : Int) b (Nat.le_refl _) (by omega) (by omega)
  rw [gcd_natAbs] at this
  exact this
 refine ev_bind hgg ?_
 have hg := gcd_pos (t := t) hb
 have hd := tdiv_gcd t b hb
 have h1 := div_small t _ ht ht' hg
 have h2 := div_small b _ (by omega) hb' hg
 simp only [if_neg (show ¬ (Int.gcd t b : Int) = 0 by omega), hd.1, hd.2, w64 (n := t / (Int.gcd t b : Int)) (by omega) (by omega), w64 (n := b / (Int.gcd t b : Int)) (by omega) (by omega)]
 refine ev_bind (impl_fv _ _) ?_
 unfold mk
 by_cases h : FV (t / (Int.gcd t b : Int)) (b / (Int.gcd t b : Int))
 ·simp only [fv_iff.2 h, if_true, if_pos h]; exact Ev.now _
 ·have : fv (t / (Int.gcd t b : Int)) (b / (Int.gcd t b : Int)) = false := by
   rw [Bool.eq_false_iff]; exact fun e => h (fv_iff.1 e)
  simp only [this, Bool.false_eq_true, if_false, if_neg h]; exact Ev.now _
theorem impl_mk (t b : Int) (ht : -4611686018427387904 ≤ t) (ht' : t ≤ 4611686018427387904) (hb : 0 < b) (hb' : b ≤ 4611686018427387904) : Ev (fun k => impl_reduced.f k t b) (mk t b) := by
 unfold impl_reduced.f
 simp only [if_neg (show ¬ b < 0 by omega)]
 exact impl_mk_j t b ht ht' hb hb'
theorem in_dec (a b c : Int) : impl_in.f a b c = some (decide (b ≤ a ∧ a ≤ c)) := by
 unfold impl_in.f
 by_cases h : a ≥ b
 ·rw [if_pos h]
  by_cases h2 : a ≤ c
  ·rw [decide_eq_true h2, decide_eq_true ⟨h, h2⟩]
  ·rw [decide_eq_false h2, decide_eq_false (fun e => h2 e.2)]
 ·rw [if_neg h, decide_eq_false (fun e => h e.1)]
theorem index_cut (c : UInt8) : ∀ l : List UInt8, Lib.indexByte l c = if fst (c.toNat : Int) (l.map fun b => (b.toNat : Int)) < l.length then ((fst (c.toNat : Int) (l.map fun b => (b.toNat : Int)) : Nat) : Int) else -1
 | [] => rfl
 | b :: l => by
  have ih := index_cut c l
  rw [Lib.indexByte, List.map_cons, fst, List.length_cons]
  by_cases h : b = c
  ·subst h
   rw [if_pos (beq_self_eq_true b), if_pos rfl, if_pos (Nat.succ_pos _)]; rfl
  ·have hne : ¬ (b.toNat : Int) = (c.toNat : Int) := fun e => h (UInt8.toNat_inj.1 (by omega))
   rw [if_neg (fun e => h (eq_of_beq e)), if_neg hne, ih]
   generalize fst (c.toNat : Int) (l.map fun b => (b.toNat : Int)) = f
   by_cases hf : f < l.length
   ·rw [if_pos hf, if_pos (show f + 1 < l.length + 1 by omega)]
    rw [if_neg (fun e => by have := eq_of_beq e; omega)]; rfl
   ·rw [if_neg hf, if_neg (show ¬ f + 1 < l.length + 1 by omega)]; rfl
theorem cut_ev (s : ByteArray) (hs : s.size ≤ 4611686018427387904) (c : UInt8) :
  strings_Cut.f s (⟨#[c]⟩ : ByteArray) = some (if fst (c.toNat : Int) (bytesOf s) < (bytesOf s).length then
   (s.extract 0 (fst (c.toNat : Int) (bytesOf s)), s.extract (fst (c.toNat : Int) (bytesOf s) + 1) s.size, true) else (s, (⟨#[]⟩ : ByteArray), false)) := by
 have hi : stringslite_Index.f s (⟨#[c]⟩ : ByteArray) = some (if fst (c.toNat : Int) (bytesOf s) < (bytesOf s).length then ((fst (c.toNat : Int) (bytesOf s) : Nat) : Int) else -1) := by
  unfold stringslite_Index.f
  rw [if_pos (show (⟨#[c]⟩ : ByteArray).size = 1 from rfl), one_get, index_cut]
  unfold bytesOf
  rw [List.length_map]
 unfold strings_Cut.f stringslite_Cut.f
 rw [hi]
 have h1 : (⟨#[c]⟩ : ByteArray).size = 1 := rfl
 rw [bytesOf_length]
 generalize fst (c.toNat : Int) (bytesOf s) = f
 by_cases hf : f < s.size
 ·simp only [if_pos hf, Option.bind_some, h1]
  have hw : wrap64 ((f : Int) + ((1 : Nat) : Int)) = ((f + 1 : Nat) : Int) := w64s (by omega)
  rw [if_pos (show (f : Int) ≥ 0 by omega), if_pos (show (0 : Int) ≤ (f : Int) by omega), if_pos (show (f : Int) ≤ (s.size : Int) by omega), hw,
   if_pos (show (0 : Int) ≤ ((f + 1 : Nat) : Int) by omega), if_pos (show ((f + 1 : Nat) : Int) ≤ (s.size : Int) by omega)]
  rfl
 ·simp only [if_neg hf, Option.bind_some]
  rw [if_neg (show ¬ (-1 : Int) ≥ 0 by omega)]; rfl
theorem isD_dec (x : Int) : decide ((48 : Int) ≤ x ∧ x ≤ 57) = isD x := rfl
theorem digits_l (s : ByteArray) (hs : s.size ≤ 4611686018427387904) (a b : Nat) : ∀ (l : List Int) (i : Nat), (bytesOf s).drop i = l → i ≤ s.size →
  Ev (fun k => impl_digits.l0 k s (a : Int) (b : Int) (i : Int)) (l.all isD && (decide (a ≤ (bytesOf s).length) && decide ((bytesOf s).length ≤ b))) := by
 intro l
 induction l with
 | nil =>
  intro i hl hi
  have hn : s.size = i := by
   have := List.drop_eq_nil_iff.1 hl
   rw [bytesOf_length] at this; omega
  refine Ev.step (fun k => by rw [impl_digits.l0]) (ev_const fun k => ?_)
  rw [if_neg (by omega), in_dec, Option.bind_some, bytesOf_length]
  congr 1
  rw [Bool.eq_iff_iff]
  simp only [List.all_nil, Bool.true_and, Bool.and_eq_true, decide_eq_true_eq]
  omega
 | cons x l ih =>
  intro i hl hi
  have hlt : i < s.size := by
   rcases Nat.lt_or_ge i s.size with h | h
   ·exact h
   ·rw [List.drop_eq_nil_iff.2 (by rw [bytesOf_length]; exact h)] at hl; cases hl
  have hd := drop_cons (bytesOf s) i (by rw [bytesOf_length]; exact hlt)
  rw [hd] at hl
  obtain ⟨hx, hl'⟩ := List.cons.inj hl
  have hr := getD_range s i
  have hb := bt_nat s i
  rw [hx] at hb hr
  have h1 := ih (i + 1) hl' (by omega)
  refine Ev.step (fun k => by rw [impl_digits.l0]) ?_
  simp only [hb, w64s (show i + 1 < 9223372036854775808 by omega), w64 (n := x) (by omega) (by omega), in_dec, isD_dec, Option.bind_some, if_pos (show (i : Int) < (s.size : Int) by omega), if_pos (show (0 : Int) ≤ (i : Int) by omega), List.all_cons]
  cases hq : isD x
  ·simp; exact Ev.now _
  ·simpa using h1
theorem digits_ev (s : ByteArray) (hs : s.size ≤ 4611686018427387904) (a b : Nat) : Ev (fun k => impl_digits.f k s (a : Int) (b : Int)) (digs (bytesOf s) a b) := by
 have := digits_l s hs a b (bytesOf s) 0 rfl (by omega)
 unfold digs
 rw [Bool.and_assoc]
 exact this
theorem digitVal_isD {b : UInt8} (h : isD (b.toNat : Int) = true) : Lib.digitVal b = some (b.toNat - 48) := by
 have := isD_iff.1 h
 unfold Lib.digitVal
 exact if_pos ⟨by omega, by omega⟩
theorem decFrom_dv : ∀ (l : List UInt8) (acc : Nat), (l.map fun b => (b.toNat : Int)).all isD = true → ∃ n, Lib.decFrom acc l = some n ∧ (n : Int) = dv (acc : Int) (l.map fun b => (b.toNat : Int))
 | [], acc, _ => ⟨acc, rfl, rfl⟩
 | b :: l, acc, h => by
  rw [List.map_cons, List.all_cons, Bool.and_eq_true] at h
  have hb := isD_iff.1 h.1
  obtain ⟨n, h1, h2⟩ := decFrom_dv l (acc * 10 + (b.toNat - 48)) h.2
  refine ⟨n, ?_, ?_⟩
  ·rw [Lib.decFrom, digitVal_isD h.1]; exact h1
  ·rw [h2, List.map_cons, dv]
   congr 1
   omega
theorem atoi_ev (s : ByteArray) (h : digs (bytesOf s) 1 18 = true) : strconv_Atoi.f s = some (dv 0 (bytesOf s), none) := by
 have hd := digs_iff.1 h
 unfold strconv_Atoi.f
 rw [size_bytes, if_pos hd.2.2]
 obtain ⟨h1, h2, _⟩ := hd
 unfold bytesOf at h1 h2 ⊢
 generalize s.data.toList = L at h1 h2
 cases L with
 | nil => simp at h2
 | cons b l =>
  have hb : isD (b.toNat : Int) = true := by rw [List.map_cons, List.all_cons, Bool.and_eq_true] at h1; exact h1.1
  have hb' := isD_iff.1 hb
  have n1 : ¬ ((b == 45) = true) := fun e => by
   rw [eq_of_beq e] at hb'; exact absurd hb'.1 (by decide)
  have n2 : ¬ ((b == 43) = true) := fun e => by
   rw [eq_of_beq e] at hb'; exact absurd hb'.1 (by decide)
  obtain ⟨n, e1, e2⟩ := decFrom_dv (b :: l) 0 h1
  have e3 : Lib.decNat (b :: l) = some n := by unfold Lib.decNat; exact e1
  unfold Lib.atoi
  simp only [if_neg n1, if_neg n2, e3, Option.map_some]
  rw [e2]; rfl
theorem plainB_digs {s : ByteArray} (h : (bytesOf s).all isD = true) (hl : (bytesOf s).length ≤ 18) : plainB s = true := by
 unfold plainB
 rw [Bool.and_eq_true, size_bytes, List.all_eq_true]
 refine ⟨decide_eq_true hl, fun b hb => decide_eq_true ?_⟩
 have := isD_iff.1 (List.all_eq_true.1 h (b.toNat : Int) (List.mem_map.2 ⟨b, hb, rfl⟩))
 omega
theorem p10_pow (n : Nat) : p10 n = (10 : Int) ^ n := rfl
theorem impl_dec_j (w r : ByteArray) (x : Bool) (hw : digs (bytesOf w) 1 10 = true) (hr : (bytesOf r).all isD = true) (hl : (bytesOf r).length ≤ 6) :
  Ev (fun k => impl_DecimalOf.j0 k w r x) (if x = true then noF else mk (dv 0 (bytesOf w ++ bytesOf r)) (10 ^ (bytesOf r).length)) := by
 refine Ev.step (fun k => by rw [impl_DecimalOf.j0]) ?_
 cases x with
 | true => simp only [if_true]; exact Ev.now _
 | false =>
  have hd := digs_iff.1 hw
  have ha : digs (bytesOf (w ++ r)) 1 18 = true := by
   rw [bytesOf_app]
   exact digs_iff.2 ⟨by rw [List.all_append, hd.1, hr]; rfl, by rw [List.length_append]; omega, by rw [List.length_append]; omega⟩
  have hsz : (bytesOf w).length + (bytesOf r).length ≤ 9223372036854775807 := by omega
  simp only [Bool.false_eq_true, if_false, if_pos hsz, atoi_ev _ ha, Option.bind_some, if_pos (plainB_digs hr (by omega)), p10_pow, size_bytes, bytesOf_app]
  have h2 := dv_lt18 (bytesOf w ++ bytesOf r) (by rw [List.all_append, hd.1, hr]; rfl) (by rw [List.length_append]; omega)
  have h3 := pow6 (bytesOf r).length hl
  exact ev_bind (impl_mk (dv 0 (bytesOf w ++ bytesOf r)) (10 ^ (bytesOf r).length) (by omega) (by omega) (by omega) (by omega)) (Ev.now _)
theorem impl_dec_bad (w r : ByteArray) : Ev (fun k => impl_DecimalOf.j0 k w r true) noF := by
 refine Ev.step (fun k => by rw [impl_DecimalOf.j0]) ?_
 simp only [if_true]; exact Ev.now _
theorem impl_dec (s : ByteArray) (hs : s.size ≤ 4611686018427387904) : Ev (fun k => impl_DecimalOf.f k s) (decOf (bytesOf s)) := by
 unfold impl_DecimalOf.f decOf
 rw [cut_ev s hs 46]
 rw [show (((46 : UInt8).toNat : Nat) : Int) = 46 from rfl]
 simp only [Option.bind_some]
 by_cases hf : fst 46 (bytesOf s) < (bytesOf s).length
 ·simp only [if_pos hf]
  have hle := fst_le 46 (bytesOf s)
  have e1 : bytesOf (s.extract 0 (fst 46 (bytesOf s))) = (bytesOf s).take (fst 46 (bytesOf s)) := by rw [bytesOf_cut, List.drop_zero]
  have e2 : bytesOf (s.extract (fst 46 (bytesOf s) + 1) s.size) = (bytesOf s).drop (fst 46 (bytesOf s) + 1) := by
   rw [bytesOf_cut, size_bytes, List.take_of_length_le (Nat.le_refl _)]
  have z1 : (s.extract 0 (fst 46 (bytesOf s))).size ≤ 4611686018427387904 := by rw [size_bytes, e1, List.length_take, ← size_bytes]; omega
  have z2 : (s.extract (fst 46 (bytesOf s) + 1) s.size).size ≤ 4611686018427387904 := by rw [size_bytes, e2, List.length_drop, ← size_bytes]; omega
  have d1 := digits_ev _ z1 1 10
  have d2 := digits_ev _ z2 1 6
  rw [e1] at d1
  rw [e2] at d2
  refine ev_bind d1 ?_
  cases hw : digs ((bytesOf s).take (fst 46 (bytesOf s))) 1 10 with
  | false =>
   simp only [Bool.false_and, Bool.false_eq_true, if_false]
   exact impl_dec_bad _ _
  | true =>
   simp only [if_true, Bool.true_and]
   refine ev_bind d2 ?_
   cases hr : digs ((bytesOf s).drop (fst 46 (bytesOf s) + 1)) 1 6 with
   | false =>
    simp only [Bool.not_false, Bool.false_eq_true, if_false]
    exact impl_dec_bad _ _
   | true =>
    simp only [Bool.not_true, if_true]
    have q := digs_iff.1 hr
    have := impl_dec_j (s.extract 0 (fst 46 (bytesOf s))) (s.extract (fst 46 (bytesOf s) + 1) s.size) false (by rw [e1]; exact hw) (by rw [e2]; exact q.1) (by rw [e2]; exact q.2.2)
    rw [e1, e2, if_neg (by decide)] at this
    exact this
 ·simp only [if_neg hf]
  refine ev_bind (digits_ev s hs 1 10) ?_
  cases hw : digs (bytesOf s) 1 10 with
  | false =>
   simp only [Bool.false_eq_true, if_false]
   exact impl_dec_bad _ _
  | true =>
   simp only [if_true, Bool.false_eq_true, if_false]
   have hn : bytesOf (⟨#[]⟩ : ByteArray) = [] := rfl
   have := impl_dec_j s (⟨#[]⟩ : ByteArray) false hw (by rw [hn]; rfl) (by rw [hn]; exact Nat.zero_le _)
   rw [hn, List.append_nil, if_neg (by decide), List.length_nil, Int.pow_zero] at this
   exact this

theorem prefix_ev (s : ByteArray) (hs : s.size ≤ 4611686018427387904) :
  strings_CutPrefix.f s (⟨#[45]⟩ : ByteArray) = some (if (unsg (bytesOf s)).2 = true then (s.extract 1 s.size, true) else (s, false)) ∧
  ((unsg (bytesOf s)).2 = true → bytesOf (s.extract 1 s.size) = (unsg (bytesOf s)).1) ∧ ((unsg (bytesOf s)).2 = false → bytesOf s = (unsg (bytesOf s)).1) := by
 have hp1 : (⟨#[45]⟩ : ByteArray).size = 1 := rfl
 have hb : bytesOf (⟨#[45]⟩ : ByteArray) = [45] := rfl
 have e2 : bytesOf (s.extract 1 s.size) = (bytesOf s).drop 1 := by rw [bytesOf_cut, size_bytes, List.take_of_length_le (Nat.le_refl _)]
 have e1 : bytesOf (s.extract 0 1) = (bytesOf s).take 1 := by rw [bytesOf_cut, List.drop_zero]
 have hlen := bytesOf_length s
 have key : stringslite_HasPrefix.f s (⟨#[45]⟩ : ByteArray) = some (unsg (bytesOf s)).2 := by
  unfold stringslite_HasPrefix.f
  rw [hp1]
  by_cases h0 : (s.size : Int) ≥ ((1 : Nat) : Int)
  ·rw [if_pos h0, if_pos (by decide), if_pos h0]
   congr 1
   rw [show (((1 : Nat) : Int)).toNat = 1 from rfl, Bool.eq_iff_iff, beq_iff_eq, toList_iff, e1, hb]
   cases h : bytesOf s with
   | nil => rw [h] at hlen; simp at hlen; omega
   | cons x l =>
    unfold unsg
    by_cases hx : x = 45
    ·subst hx; simp
    ·simp [hx]
  ·rw [if_neg h0]
   cases h : bytesOf s with
   | nil => rfl
   | cons x l => rw [h, List.length_cons] at hlen; omega
 have hl1 : (unsg (bytesOf s)).2 = true → bytesOf s = 45 :: (unsg (bytesOf s)).1 := by
  cases h : bytesOf s with
  | nil => intro h2; cases h2
  | cons x l =>
   unfold unsg
   by_cases hx : x = 45
   ·subst hx; simp
   ·simp [hx]
 refine ⟨?_, ?_, ?_⟩
 ·unfold strings_CutPrefix.f stringslite_CutPrefix.f
  rw [key, hp1]
  cases hu : (unsg (bytesOf s)).2 with
  | false => rfl
  | true =>
   have := hl1 hu
   have h1 : 1 ≤ s.size := by rw [size_bytes, this, List.length_cons]; omega
   simp only [Option.bind_some, if_true, if_pos (show (0 : Int) ≤ ((1 : Nat) : Int) by decide), if_pos (show ((1 : Nat) : Int) ≤ (s.size : Int) by omega)]
   rfl
 ·intro hu
  rw [e2, hl1 hu]; rfl
 ·cases h : bytesOf s with
  | nil => intro _; rfl
  | cons x l =>
   unfold unsg
   by_cases hx : x = 45
   ·subst hx; simp
   ·simp [hx]
theorem toList_nil_iff (s : ByteArray) : s.toList = ([] : List UInt8) ↔ bytesOf s = [] := by
 have e : (⟨#[]⟩ : ByteArray).toList = ([] : List UInt8) := by rw [toList_data]
 rw [← e, toList_iff]; rfl
theorem impl_rf_j1 (s : ByteArray) (m : Bool) (ok : Bool) (x y : Int) (hx : -10000000000 ≤ x) (hx' : x ≤ 10000000000) :
  Ev (fun k => impl_ReadFraction.j1 k s m ok x y) (if ok = true ∧ bytesOf (ftx (neg m x) y) = bytesOf s ∧ bytesOf s ≠ [] then (neg m x, y, true) else noF) := by
 refine Ev.step (fun k => by rw [impl_ReadFraction.j1]) ?_
 have hw : wrap64 (-x) = -x := w64 (by omega) (by omega)
 have fin : ∀ z : Int, Ev (fun k => (impl_FractionText.f k z y).bind fun t => (if t.toList = s.toList then (if s.toList = ([] : List UInt8) then (some (0, 0, false)) else (some (z, y, true))) else (some (0, 0, false)))) (if bytesOf (ftx z y) = bytesOf s ∧ bytesOf s ≠ [] then (z, y, true) else noF) := by
  intro z
  refine ev_bind (ft z y).2 ?_
  by_cases h1 : bytesOf (ftx z y) = bytesOf s
  ·simp only [if_pos (toList_iff.2 h1)]
   by_cases h2 : bytesOf s = []
   ·simp only [if_pos ((toList_nil_iff s).2 h2)]
    rw [if_neg (fun h => h.2 h2)]; exact Ev.now _
   ·simp only [if_neg (fun h => h2 ((toList_nil_iff s).1 h))]
    rw [if_pos ⟨h1, h2⟩]; exact Ev.now _
  ·simp only [if_neg (fun h => h1 (toList_iff.1 h))]
   rw [if_neg (fun h => h1 h.1)]; exact Ev.now _
 cases m with
 | true =>
  have hn : neg true x = -x := rfl
  cases ok with
  | true => simp only [if_true, hw, hn, true_and]; exact fin _
  | false => simp only [if_true, Bool.false_eq_true, if_false, false_and]; exact Ev.now _
 | false =>
  have hn : neg false x = x := rfl
  cases ok with
  | true => simp only [Bool.false_eq_true, if_false, if_true, hn, true_and]; exact fin _
  | false => simp only [Bool.false_eq_true, if_false, false_and]; exact Ev.now _
theorem decOf_bd (l : List Int) : -10000000000 ≤ (decOf l).1 ∧ (decOf l).1 ≤ 10000000000 := by
 have hm : ∀ t b : Int, 0 < b → -10000000000 ≤ (mk t b).1 ∧ (mk t b).1 ≤ 10000000000 := by
  intro t b hb
  rcases mk_cases t b hb with h | ⟨x, y, h1, _, h⟩
  ·rw [h]; decide
  ·rw [h]; exact ⟨by have := h1.1; simp only; omega, by have := h1.2.1; simp only; omega⟩
 have hn : -10000000000 ≤ noF.1 ∧ noF.1 ≤ 10000000000 := by decide
 unfold decOf
 split
 ·split
  ·exact hm _ _ (pow10_pos _)
  ·exact hn
 ·split
  ·exact hm _ _ (by decide)
  ·exact hn
theorem impl_rf (s : ByteArray) (hs : s.size ≤ 1152921504606846976) : Ev (fun k => impl_ReadFraction.f k s) (rdI (bytesOf s)) := by
 obtain ⟨h1, h2, h3⟩ := prefix_ev s (by omega)
 unfold impl_ReadFraction.f
 rw [h1]
 simp only [Option.bind_some]
 generalize hu : unsg (bytesOf s) = u at *
 obtain ⟨l, m⟩ := u
 obtain ⟨t, ht1, ht2, ht3⟩ : ∃ t : ByteArray, (if m = true then (s.extract 1 s.size, true) else (s, false)) = (t, m) ∧ bytesOf t = l ∧ t.size ≤ s.size := by
  cases m with
  | true => exact ⟨_, rfl, h2 rfl, by rw [ByteArray.size_extract]; omega⟩
  | false => exact ⟨_, rfl, h3 rfl, Nat.le_refl _⟩
 rw [ht1]
 simp only
 refine ev_bind (impl_dec t (by omega)) ?_
 rw [cut_ev t (by omega) 47]
 rw [show (((47 : UInt8).toNat : Nat) : Int) = 47 from rfl, ht2]
 simp only [Option.bind_some]
 have hR : rdI (bytesOf s) = if (bodyI l).2.2 = true ∧ bytesOf (ftx (neg m (bodyI l).1) (bodyI l).2.1) = bytesOf s ∧ bytesOf s ≠ [] then (neg m (bodyI l).1, (bodyI l).2.1, true) else noF := by
  unfold rdI; rw [hu]
 rw [hR]
 unfold bodyI
 by_cases hf : fst 47 l < l.length
 ·simp only [if_pos hf, if_true]
  have hle := fst_le 47 l
  have e1 : bytesOf (t.extract 0 (fst 47 l)) = l.take (fst 47 l) := by rw [bytesOf_cut, List.drop_zero, ht2]
  have e2 : bytesOf (t.extract (fst 47 l + 1) t.size) = l.drop (fst 47 l + 1) := by
   rw [bytesOf_cut, size_bytes, List.take_of_length_le (Nat.le_refl _), ht2]
  have hlt : l.length = t.size := by rw [size_bytes, ht2]
  have z1 : (t.extract 0 (fst 47 l)).size ≤ 4611686018427387904 := by rw [size_bytes, e1, List.length_take]; omega
  have z2 : (t.extract (fst 47 l + 1) t.size).size ≤ 4611686018427387904 := by rw [size_bytes, e2, List.length_drop]; omega
  have d1 := digits_ev _ z1 1 10
  have d2 := digits_ev _ z2 1 7
  rw [e1] at d1
  rw [e2] at d2
  refine ev_bind d1 ?_
  have bad : ∀ v w : ByteArray, Ev (fun k => impl_ReadFraction.j0 k s m v w true) noF := by
   intro v w
   refine Ev.step (fun k => by rw [impl_ReadFraction.j0]) ?_
   simp only [if_true]; exact Ev.now _
  have hno : ∀ z : Int × Int × Bool, z = noF → (if z.2.2 = true ∧ bytesOf (ftx (neg m z.1) z.2.1) = bytesOf s ∧ bytesOf s ≠ [] then (neg m z.1, z.2.1, true) else noF) = noF := by
   intro z hz; subst hz; exact if_neg (fun h => by cases h.1)
  cases hw : digs (l.take (fst 47 l)) 1 10 with
  | false =>
   simp only [Bool.false_and, Bool.false_eq_true, if_false]
   rw [hno _ rfl]
   exact bad _ _
  | true =>
   simp only [if_true, Bool.true_and]
   refine ev_bind d2 ?_
   cases hr : digs (l.drop (fst 47 l + 1)) 1 7 with
   | false =>
    simp only [Bool.not_false, Bool.false_eq_true, if_false]
    rw [hno _ rfl]
    exact bad _ _
   | true =>
    simp only [Bool.not_true, if_true]
    have q1 := digs_iff.1 hw
    have q2 := digs_iff.1 hr
    refine Ev.step (fun k => by rw [impl_ReadFraction.j0]) ?_
    have a1 := atoi_ev (t.extract 0 (fst 47 l)) (by rw [e1]; exact digs_iff.2 ⟨q1.1, q1.2.1, by omega⟩)
    have a2 := atoi_ev (t.extract (fst 47 l + 1) t.size) (by rw [e2]; exact digs_iff.2 ⟨q2.1, q2.2.1, by omega⟩)
    rw [e1] at a1
    rw [e2] at a2
    have b1 := dv_lt10 _ q1.1 q1.2.2
    simp only [Bool.false_eq_true, if_false, a1, a2, Option.bind_some]
    have q := impl_rf_j1 s m true (dv 0 (l.take (fst 47 l))) (dv 0 (l.drop (fst 47 l + 1))) (by omega) (by omega)
    simp only [eq_self, true_and] at q ⊢
    exact q
 ·simp only [if_neg hf, Bool.false_eq_true, if_false]
  have := decOf_bd l
  exact impl_rf_j1 s m _ _ _ this.1 this.2

theorem spec_mk (t b : Int) (ht : -4611686018427387904 ≤ t) (ht' : t ≤ 4611686018427387904) (hb : 0 < b) (hb' : b ≤ 4611686018427387904) : Ev (fun k => spec_l2Make.f k t b) (mk t b) := by
 unfold spec_l2Make.f
 refine ev_bind (spec_gcd_l _ t b (Nat.le_refl _) ht ht' (by omega) hb') ?_
 have hg := gcd_pos (t := t) hb
 have hd := tdiv_gcd t b hb
 have h1 := div_small t _ ht ht' hg
 have h2 := div_small b _ (by omega) hb' hg
 simp only [if_neg (show ¬ (Int.gcd t b : Int) = 0 by omega), hd.1, hd.2, w64 (n := t / (Int.gcd t b : Int)) (by omega) (by omega), w64 (n := b / (Int.gcd t b : Int)) (by omega) (by omega)]
 refine ev_bind (spec_fv _ _) ?_
 unfold mk
 by_cases h : FV (t / (Int.gcd t b : Int)) (b / (Int.gcd t b : Int))
 ·simp only [fv_iff.2 h, if_true, if_pos h]; exact Ev.now _
 ·have : fv (t / (Int.gcd t b : Int)) (b / (Int.gcd t b : Int)) = false := by
   rw [Bool.eq_false_iff]; exact fun e => h (fv_iff.1 e)
  simp only [this, Bool.false_eq_true, if_false, if_neg h]; exact Ev.now _

theorem in_spec (a b c : Int) : spec_l1In.f a b c = some (decide (b ≤ a ∧ a ≤ c)) := by
 unfold spec_l1In.f
 by_cases h : a ≥ b
 ·rw [if_pos h]
  by_cases h2 : a ≤ c
  ·rw [decide_eq_true h2, decide_eq_true ⟨h, h2⟩]
  ·rw [decide_eq_false h2, decide_eq_false (fun e => h2 e.2)]
 ·rw [if_neg h, decide_eq_false (fun e => h e.1)]
/-- l2Digits: from a place on, at most so many digits. -/
theorem l2d_l (s : ByteArray) (hs : s.size ≤ 4611686018427387904) (fr most : Nat) (hm : most ≤ 10) (hfr : fr ≤ s.size) : ∀ (m at_ : Nat) (n : Int), at_ + m = fr + most → fr ≤ at_ → at_ ≤ s.size → 0 ≤ n → n < 10 ^ (at_ - fr) →
  Ev (fun k => spec_l2Digits.l0 k s (at_ : Int) (most : Int) n (fr : Int)) (dv n (((bytesOf s).drop at_).take (lead m ((bytesOf s).drop at_))), ((at_ + lead m ((bytesOf s).drop at_) : Nat) : Int)) := by
 intro m
 induction m with
 | zero =>
  intro at_ n h1 h2 h3 h4 h5
  refine Ev.step (fun k => by rw [spec_l2Digits.l0]) ?_
  have hw : wrap64 ((fr : Int) + (most : Int)) = ((fr + most : Nat) : Int) := by rw [w64 (by omega) (by omega)]; rfl
  have hbt := bt_nat s at_
  rw [lead, List.take_zero, dv, Nat.add_zero]
  simp only [hw, if_neg (show ¬ (at_ : Int) < ((fr + most : Nat) : Int) by omega), if_pos (show (0 : Int) ≤ (at_ : Int) by omega), ite_self]
  exact Ev.now _
 | succ m ih =>
  intro at_ n h1 h2 h3 h4 h5
  refine Ev.step (fun k => by rw [spec_l2Digits.l0]) ?_
  have hw : wrap64 ((fr : Int) + (most : Int)) = ((fr + most : Nat) : Int) := by rw [w64 (by omega) (by omega)]; rfl
  by_cases hlt : at_ < s.size
  ·have hd := drop_cons (bytesOf s) at_ (by rw [bytesOf_length]; exact hlt)
   have hr := getD_range s at_
   have hbt := bt_nat s at_
   rw [hd]
   generalize hx : (bytesOf s).getD at_ 0 = x at *
   simp only [hbt, if_pos (show (at_ : Int) < (s.size : Int) by omega), if_pos (show (0 : Int) ≤ (at_ : Int) by omega), hw]
   rw [lead]
   by_cases hx1 : isD x = true
   ·have hq := isD_iff.1 hx1
    have hp : (10 : Int) ^ (at_ + 1 - fr) = 10 * 10 ^ (at_ - fr) := by
     rw [show at_ + 1 - fr = (at_ - fr) + 1 by omega, Int.pow_succ, Int.mul_comm]
    have hpb : (10 : Int) ^ (at_ - fr) ≤ 10 ^ 9 := by
     have := Nat.pow_le_pow_right (show 10 > 0 by omega) (show at_ - fr ≤ 9 by omega)
     exact_mod_cast this
    have hpb' : (10 : Int) ^ (at_ - fr) ≤ 1000000000 := hpb
    have := ih (at_ + 1) (10 * n + (x - 48)) (by omega) (by omega) (by omega) (by omega) (by rw [hp]; generalize (10 : Int) ^ (at_ - fr) = p at *; omega)
    have e1 : wrap64 (wrap64 (10 * n) + (x - 48) % 256) = 10 * n + (x - 48) := by
     generalize (10 : Int) ^ (at_ - fr) = p at *
     rw [w64 (n := 10 * n) (by omega) (by omega), w64 (by omega) (by omega)]; omega
    simp only [if_pos (show x ≥ 48 by omega), if_pos (show x ≤ 57 by omega), if_pos (show (at_ : Int) < ((fr + most : Nat) : Int) by omega), e1, w64s (show at_ + 1 < 9223372036854775808 by omega)]
    rw [if_pos hx1, List.take_succ_cons, dv]
    rw [show at_ + (lead m ((bytesOf s).drop (at_ + 1)) + 1) = at_ + 1 + lead m ((bytesOf s).drop (at_ + 1)) by omega]
    exact this
   ·rw [if_neg hx1, List.take_zero, dv, Nat.add_zero]
    by_cases hx2 : x ≥ 48
    ·simp only [if_pos hx2, if_neg (show ¬ x ≤ 57 from fun h => hx1 (isD_iff.2 ⟨hx2, h⟩))]
     exact Ev.now _
    ·simp only [if_neg hx2]; exact Ev.now _
  ·have hn : (bytesOf s).drop at_ = [] := List.drop_eq_nil_of_le (by rw [bytesOf_length]; omega)
   rw [hn, lead, List.take_zero, dv, Nat.add_zero]
   simp only [if_neg (show ¬ (at_ : Int) < (s.size : Int) by omega)]
   exact Ev.now _
theorem l2d (s : ByteArray) (hs : s.size ≤ 4611686018427387904) (fr most : Nat) (hm : most ≤ 10) (hfr : fr ≤ s.size) :
  Ev (fun k => spec_l2Digits.f k s (fr : Int) (most : Int)) (dv 0 (((bytesOf s).drop fr).take (lead most ((bytesOf s).drop fr))), ((fr + lead most ((bytesOf s).drop fr) : Nat) : Int)) :=
 l2d_l s hs fr most hm hfr most fr 0 rfl (Nat.le_refl _) hfr (Int.le_refl _) (by rw [Nat.sub_self]; decide)
/-- the scale: ten times as often as there are digits. -/
theorem scale_l (s : ByteArray) (w p at_ : Int) (hw : 0 ≤ w) (hw' : w ≤ 10000000000) (hp : 0 ≤ p) (hp' : p ≤ 10000000) (hat : 0 ≤ at_) (hat' : at_ ≤ 4611686018427387904) : ∀ (d e : Nat) (j : Int), j + d = at_ → d + e ≤ 6 → 0 ≤ j →
  Ev (fun k => spec_DecimalOf.l0 k s w (10 ^ e) p at_ j) (if at_ = (s.size : Int) then mk (w * 10 ^ (e + d) + p) (10 ^ (e + d)) else noF) := by
 intro d
 induction d with
 | zero =>
  intro e j h1 h2 h3
  refine Ev.step (fun k => by rw [spec_DecimalOf.l0]) ?_
  have hq := pow6 e (by omega)
  have hm1 : 0 ≤ w * 10 ^ e := Int.mul_nonneg hw (by omega)
  have hm2 : w * 10 ^ e ≤ 10000000000 * 1000000 := Int.mul_le_mul hw' hq.2 (by omega) (by omega)
  simp only [if_neg (show ¬ j < at_ by omega), Nat.add_zero]
  by_cases hz : at_ = (s.size : Int)
  ·simp only [if_pos hz]
   rw [w64 (n := w * 10 ^ e) (by omega) (by omega), w64 (n := w * 10 ^ e + p) (by omega) (by omega)]
   exact ev_bind (spec_mk (w * 10 ^ e + p) (10 ^ e) (by omega) (by omega) (by omega) (by omega)) (Ev.now _)
  ·simp only [if_neg hz]; exact Ev.now _
 | succ d ih =>
  intro e j h1 h2 h3
  refine Ev.step (fun k => by rw [spec_DecimalOf.l0]) ?_
  have hq := pow6 e (by omega)
  have := ih (e + 1) (j + 1) (by omega) (by omega) (by omega)
  have e1 : wrap64 (10 * 10 ^ e) = (10 : Int) ^ (e + 1) := by rw [w64 (by omega) (by omega), Int.pow_succ, Int.mul_comm]
  simp only [if_pos (show j < at_ by omega), e1, w64 (n := j + 1) (by omega) (by omega)]
  rw [show e + (d + 1) = e + 1 + d by omega]
  exact this
theorem lead_digs {m : Nat} {l : List Int} (h : lead m l = l.length) : l.all isD = true ∧ l.length ≤ m := by
 have h1 := lead_all m l
 have h2 := lead_le m l
 rw [h, List.take_of_length_le (Nat.le_refl _)] at h1
 exact ⟨h1, by omega⟩
/-- decOf by the digits that lead. -/
theorem decOf_lead (l : List Int) : decOf l =
  if lead 10 l = 0 then noF
  else if lead 10 l < l.length ∧ l.getD (lead 10 l) 0 = 46 then
   (if 1 ≤ lead 7 (l.drop (lead 10 l + 1)) ∧ lead 7 (l.drop (lead 10 l + 1)) ≤ 6 ∧ lead 10 l + 1 + lead 7 (l.drop (lead 10 l + 1)) = l.length then
    mk (dv 0 (l.take (lead 10 l)) * 10 ^ (lead 7 (l.drop (lead 10 l + 1))) + dv 0 ((l.drop (lead 10 l + 1)).take (lead 7 (l.drop (lead 10 l + 1))))) (10 ^ (lead 7 (l.drop (lead 10 l + 1)))) else noF)
  else if lead 10 l = l.length then mk (dv 0 (l.take (lead 10 l))) 1 else noF := by
 by_cases hf : fst 46 l < l.length
 ·have hsp := fst_split 46 l hf
  have hne := fst_take 46 l
  unfold decOf
  rw [if_pos hf]
  have hwl : (l.take (fst 46 l)).length = fst 46 l := by rw [List.length_take]; omega
  generalize hw : l.take (fst 46 l) = w at *
  generalize hr : l.drop (fst 46 l + 1) = r at *
  rw [← hwl] at hr hw hf
  clear hwl
  generalize fst 46 l = f at *
  subst hsp
  clear hw hr hf
  rw [lead_app d46]
  have hle := lead_le 10 w
  by_cases hfull : lead 10 w = w.length
  ·have hwd := lead_digs hfull
   rw [hfull]
   have e1 : (w ++ 46 :: r).getD w.length 0 = 46 := by simp
   have e2 : (w ++ 46 :: r).drop (w.length + 1) = r := by rw [List.drop_append]; simp
   have e3 : (w ++ 46 :: r).take w.length = w := by simp
   have e4 : (w ++ 46 :: r).length = w.length + 1 + r.length := by simp; omega
   rw [e1, e2, e3, e4]
   by_cases h0 : w.length = 0
   ·rw [if_pos h0]
    refine if_neg (fun e => ?_)
    rw [Bool.and_eq_true] at e
    have := digs_iff.1 e.1; omega
   ·rw [if_neg h0, if_pos (show w.length < w.length + 1 + r.length ∧ (46 : Int) = 46 from ⟨by omega, rfl⟩)]
    have hdw : digs w 1 10 = true := digs_iff.2 ⟨hwd.1, by omega, hwd.2⟩
    rw [hdw, Bool.true_and]
    by_cases hr : digs r 1 6 = true
    ·have hrd := digs_iff.1 hr
     have hl7 : lead 7 r = r.length := lead_full hrd.1 (by omega)
     rw [if_pos hr, hl7, if_pos ⟨hrd.2.1, hrd.2.2, rfl⟩, List.take_of_length_le (Nat.le_refl _), dv_app, dv_acc]
    ·rw [if_neg hr]
     refine (if_neg (fun e => hr ?_)).symm
     have := lead_digs (m := 7) (l := r) (by omega)
     exact digs_iff.2 ⟨this.1, by omega, by omega⟩
  ·have hlt : lead 10 w < w.length := by omega
   have hstop : (w ++ 46 :: r).getD (lead 10 w) 0 ≠ 46 := by
    rw [List.getD_eq_getElem?_getD, List.getElem?_append_left hlt, List.getElem?_eq_getElem hlt]
    exact hne _ (List.getElem_mem hlt)
   have e4 : (w ++ 46 :: r).length = w.length + 1 + r.length := by simp; omega
   rw [e4, if_neg (show ¬ (lead 10 w < w.length + 1 + r.length ∧ (w ++ 46 :: r).getD (lead 10 w) 0 = 46) from fun h => hstop h.2), if_neg (show ¬ lead 10 w = w.length + 1 + r.length by omega)]
   simp only [ite_self]
   refine if_neg (fun e => ?_)
   rw [Bool.and_eq_true] at e
   have hd := digs_iff.1 e.1
   exact hfull (lead_full hd.1 hd.2.2)
 ·have hle := lead_le 10 l
  have hn : ∀ x ∈ l, x ≠ 46 := by
   have h1 := fst_take 46 l
   have h2 := fst_le 46 l
   rw [show fst 46 l = l.length by omega, List.take_of_length_le (Nat.le_refl _)] at h1
   exact h1
  unfold decOf
  rw [if_neg hf]
  have hstop : ¬ (lead 10 l < l.length ∧ l.getD (lead 10 l) 0 = 46) := by
   rintro ⟨h1, h2⟩
   rw [List.getD_eq_getElem?_getD, List.getElem?_eq_getElem h1] at h2
   exact hn _ (List.getElem_mem h1) h2
  rw [if_neg hstop]
  by_cases hfull : lead 10 l = l.length
  ·have hd := lead_digs hfull
   rw [hfull, List.take_of_length_le (Nat.le_refl _), if_pos rfl]
   by_cases h0 : l.length = 0
   ·rw [if_pos h0]
    exact if_neg (fun e => by have := digs_iff.1 e; omega)
   ·rw [if_neg h0, if_pos (digs_iff.2 ⟨hd.1, by omega, hd.2⟩)]
  ·rw [if_neg hfull]
   simp only [ite_self]
   exact if_neg (fun e => hfull (lead_full (digs_iff.1 e).1 (digs_iff.1 e).2.2))
theorem spec_dec (s : ByteArray) (hs : s.size ≤ 1152921504606846976) : Ev (fun k => spec_DecimalOf.f k s) (decOf (bytesOf s)) := by
 rw [decOf_lead]
 unfold spec_DecimalOf.f
 have h1 := l2d s (by omega) 0 10 (Nat.le_refl _) (Nat.zero_le _)
 rw [List.drop_zero] at h1
 simp only [Nat.zero_add] at h1
 refine ev_bind h1 ?_
 have hle := lead_le 10 (bytesOf s)
 have hal := lead_all 10 (bytesOf s)
 have hlen := bytesOf_length s
 have hb := dv_lt10 _ hal (by rw [List.length_take]; omega)
 generalize hp : lead 10 (bytesOf s) = p at *
 generalize dv 0 ((bytesOf s).take p) = w at *
 by_cases h0 : p = 0
 ·simp only [if_pos (show ((p : Nat) : Int) = 0 by omega), if_pos h0]; exact Ev.now _
 ·simp only [if_neg (show ¬ ((p : Nat) : Int) = 0 by omega), if_neg h0]
  have hend : ∀ x : Bool, x = false → Ev (fun k => spec_DecimalOf.j0 k s w (p : Int) 0 1 x) (if p = (bytesOf s).length then mk w 1 else noF) := by
   intro x hx
   subst hx
   refine Ev.step (fun k => by rw [spec_DecimalOf.j0]) ?_
   simp only [Bool.false_eq_true, if_false]
   by_cases hz : p = (bytesOf s).length
   ·simp only [if_pos (show ((p : Nat) : Int) = (s.size : Int) by omega), if_pos hz, Int.mul_one, Int.add_zero]
    rw [w64 (n := w) (by omega) (by omega), w64 (n := w) (by omega) (by omega)]
    exact ev_bind (spec_mk w 1 (by omega) (by omega) (by omega) (by omega)) (Ev.now _)
   ·simp only [if_neg (show ¬ ((p : Nat) : Int) = (s.size : Int) by omega), if_neg hz]; exact Ev.now _
  by_cases hlt : p < s.size
  ·simp only [if_pos (show ((p : Nat) : Int) < (s.size : Int) by omega), if_pos (show (0 : Int) ≤ ((p : Nat) : Int) by omega), bt_nat]
   by_cases h46 : (bytesOf s).getD p 0 = 46
   ·rw [if_pos ⟨by omega, h46⟩, h46]
    have h2 := l2d s (by omega) (p + 1) 7 (by omega) (by omega)
    refine Ev.step (fun k => by rw [spec_DecimalOf.j0]) ?_
    simp only [show ((46 : Int) == 46) = true from rfl, if_true, w64s (show p + 1 < 9223372036854775808 by omega)]
    refine ev_bind h2 ?_
    have hle7 := lead_le 7 ((bytesOf s).drop (p + 1))
    have hal7 := lead_all 7 ((bytesOf s).drop (p + 1))
    rw [List.length_drop] at hle7
    have hb7 := dv_bd _ 0 hal7 (by omega)
    rw [List.length_take, List.length_drop] at hb7
    generalize hq : lead 7 ((bytesOf s).drop (p + 1)) = q at *
    generalize dv 0 (((bytesOf s).drop (p + 1)).take q) = v at *
    rw [show min q ((bytesOf s).length - (p + 1)) = q by omega] at hb7
    have hpq : (10 : Int) ^ q ≤ 10 ^ 7 := by
     have := Nat.pow_le_pow_right (show 10 > 0 by omega) hle7.1
     exact_mod_cast this
    have hpq' : (10 : Int) ^ q ≤ 10000000 := hpq
    have e1 : wrap64 (wrap64 (((p + 1 + q : Nat) : Int) - (p : Int)) - 1) = (q : Int) := by
     rw [w64 (n := ((p + 1 + q : Nat) : Int) - (p : Int)) (by omega) (by omega), w64 (by omega) (by omega)]; omega
    simp only [e1, in_spec, Option.bind_some]
    by_cases hin : (1 : Int) ≤ (q : Int) ∧ (q : Int) ≤ 6
    ·simp only [decide_eq_true hin, if_true]
     have := scale_l s w v ((p + 1 + q : Nat) : Int) hb.1 hb.2 hb7.1 (by omega) (by omega) (by omega) q 0 ((p + 1 : Nat) : Int) (by omega) (by omega) (by omega)
     rw [Int.pow_zero, Nat.zero_add] at this
     by_cases hz : p + 1 + q = (bytesOf s).length
     ·rw [if_pos ⟨by omega, by omega, hz⟩]
      rw [if_pos (show ((p + 1 + q : Nat) : Int) = (s.size : Int) by omega)] at this
      exact this
     ·rw [if_neg (fun h => hz h.2.2)]
      rw [if_neg (show ¬ ((p + 1 + q : Nat) : Int) = (s.size : Int) by omega)] at this
      exact this
    ·simp only [decide_eq_false hin, Bool.false_eq_true, if_false]
     rw [if_neg (fun h => hin ⟨by omega, by omega⟩)]
     exact Ev.now _
   ·rw [if_neg (fun h => h46 h.2)]
    exact hend _ (beq_eq_false_iff_ne.2 h46)
  ·simp only [if_neg (show ¬ ((p : Nat) : Int) < (s.size : Int) by omega)]
   rw [if_neg (fun h => hlt (by omega))]
   exact hend _ rfl

theorem spec_rf_j5 (s : ByteArray) (m : Bool) (x y : Int) (hx : -10000000000 ≤ x) (hx' : x ≤ 10000000000) :
  Ev (fun k => spec_ReadFraction.j5 k s (if m = true then -1 else 1) x y) (if bytesOf (ftx (neg m x) y) = bytesOf s ∧ bytesOf s ≠ [] then (neg m x, y, true) else noF) := by
 refine Ev.step (fun k => by rw [spec_ReadFraction.j5]) ?_
 have hw : wrap64 ((if m = true then -1 else 1) * x) = neg m x := by
  cases m with
  | true => simp only [if_true, neg]; rw [show (-1 : Int) * x = -x by omega]; exact w64 (by omega) (by omega)
  | false => simp only [Bool.false_eq_true, if_false, neg, Int.one_mul]; exact w64 (by omega) (by omega)
 by_cases h2 : bytesOf s = []
 ·simp only [if_pos ((toList_nil_iff s).2 h2)]
  rw [if_neg (fun h => h.2 h2)]; exact Ev.now _
 ·simp only [if_neg (fun h => h2 ((toList_nil_iff s).1 h)), hw]
  refine ev_bind (ft (neg m x) y).1 ?_
  by_cases h1 : bytesOf (ftx (neg m x) y) = bytesOf s
  ·simp only [if_pos (toList_iff.2 h1)]
   rw [if_pos ⟨h1, h2⟩]; exact Ev.now _
  ·simp only [if_neg (fun h => h1 (toList_iff.1 h))]
   rw [if_neg (fun h => h1 h.1)]; exact Ev.now _
theorem decOf_no {l : List Int} (h : ¬ (decOf l).2.2 = true) : decOf l = noF := by
 have hm : ∀ t b : Int, 0 < b → ¬ (mk t b).2.2 = true → mk t b = noF := by
  intro t b hb h
  rcases mk_cases t b hb with h1 | ⟨x, y, _, _, h1⟩
  ·exact h1
  ·rw [h1] at h; exact absurd rfl h
 revert h
 unfold decOf
 split
 ·split
  ·exact hm _ _ (pow10_pos _)
  ·intro _; rfl
 ·split
  ·exact hm _ _ (by decide)
  ·intro _; rfl
theorem candS_no {l : List Int} (h : ¬ (decOf l).2.2 = true) : candS l =
  if 0 < lead 10 l ∧ lead 10 l = l.length then (dv 0 (l.take (lead 10 l)), 1)
  else if 0 < lead 10 l ∧ lead 10 l < l.length ∧ l.getD (lead 10 l) 0 = 47 then
   (if lead 10 l + 1 + lead 7 (l.drop (lead 10 l + 1)) = l.length ∧ 0 < dv 0 ((l.drop (lead 10 l + 1)).take (lead 7 (l.drop (lead 10 l + 1)))) then
    (dv 0 (l.take (lead 10 l)), dv 0 ((l.drop (lead 10 l + 1)).take (lead 7 (l.drop (lead 10 l + 1))))) else (0, 0))
  else (0, 0) := by unfold candS; exact if_neg h
theorem spec_rf_j1 (s t : ByteArray) (m : Bool) (ht : t.size ≤ 1152921504606846976) :
  Ev (fun k => spec_ReadFraction.j1 k s t (if m = true then -1 else 1)) (if bytesOf (ftx (neg m (candS (bytesOf t)).1) (candS (bytesOf t)).2) = bytesOf s ∧ bytesOf s ≠ [] then (neg m (candS (bytesOf t)).1, (candS (bytesOf t)).2, true) else noF) := by
 refine Ev.step (fun k => by rw [spec_ReadFraction.j1]) ?_
 refine ev_bind (spec_dec t ht) ?_
 have hlen := bytesOf_length t
 have hd := decOf_bd (bytesOf t)
 have hno := decOf_no (l := bytesOf t)
 by_cases hok : (decOf (bytesOf t)).2.2 = true
 ·have hc : candS (bytesOf t) = ((decOf (bytesOf t)).1, (decOf (bytesOf t)).2.1) := by unfold candS; exact if_pos hok
  rw [hc]
  simp only [if_pos hok]
  exact spec_rf_j5 s m _ _ hd.1 hd.2
 ·have h0 := hno hok
  simp only [if_neg hok]
  have h1 := l2d t (by omega) 0 10 (Nat.le_refl _) (Nat.zero_le _)
  rw [List.drop_zero] at h1
  simp only [Nat.zero_add] at h1
  refine ev_bind h1 ?_
  have hle := lead_le 10 (bytesOf t)
  have hb := dv_lt10 _ (lead_all 10 (bytesOf t)) (by rw [List.length_take]; omega)
  have hc := candS_no hok
  rw [h0]
  generalize candS (bytesOf t) = c at *
  simp only [noF]
  generalize hp : lead 10 (bytesOf t) = p at *
  generalize dv 0 ((bytesOf t).take p) = w at *
  have j4f : ∀ x y : Int, -10000000000 ≤ x → x ≤ 10000000000 → Ev (fun k => spec_ReadFraction.j4 k s t (if m = true then -1 else 1) w (p : Int) false x y) (if bytesOf (ftx (neg m x) y) = bytesOf s ∧ bytesOf s ≠ [] then (neg m x, y, true) else noF) := by
   intro x y hx hx'
   refine Ev.step (fun k => by rw [spec_ReadFraction.j4]) ?_
   simp only [Bool.false_eq_true, if_false]
   exact spec_rf_j5 s m x y hx hx'
  by_cases hp0 : 0 < p
  ·simp only [if_pos (show ((p : Nat) : Int) > 0 by omega)]
   by_cases hfull : p = (bytesOf t).length
   ·obtain rfl : c = (w, 1) := hc.trans (if_pos ⟨hp0, hfull⟩)
    have hb1 : (((p : Nat) : Int) == (t.size : Int)) = true := by rw [beq_iff_eq]; omega
    refine Ev.step (fun k => by rw [spec_ReadFraction.j2]) ?_
    simp only [hb1, if_true]
    refine Ev.step (fun k => by rw [spec_ReadFraction.j3]) ?_
    simp only [if_pos (show ((p : Nat) : Int) > 0 by omega), if_neg (show ¬ ((p : Nat) : Int) < (t.size : Int) by omega)]
    exact j4f w 1 (by omega) (by omega)
   ·have hb1 : (((p : Nat) : Int) == (t.size : Int)) = false := by rw [beq_eq_false_iff_ne]; omega
    replace hc := hc.trans (if_neg (fun h => hfull h.2))
    refine Ev.step (fun k => by rw [spec_ReadFraction.j2]) ?_
    simp only [hb1, Bool.false_eq_true, if_false]
    refine Ev.step (fun k => by rw [spec_ReadFraction.j3]) ?_
    simp only [if_pos (show ((p : Nat) : Int) > 0 by omega), if_pos (show ((p : Nat) : Int) < (t.size : Int) by omega), if_pos (show (0 : Int) ≤ ((p : Nat) : Int) by omega), bt_nat]
    by_cases h47 : (bytesOf t).getD p 0 = 47
    ·replace hc := hc.trans (if_pos ⟨hp0, by omega, h47⟩)
     rw [h47]
     have h2 := l2d t (by omega) (p + 1) 7 (by omega) (by omega)
     refine Ev.step (fun k => by rw [spec_ReadFraction.j4]) ?_
     simp only [show ((47 : Int) == 47) = true from rfl, if_true, w64s (show p + 1 < 9223372036854775808 by omega)]
     refine ev_bind h2 ?_
     generalize lead 7 ((bytesOf t).drop (p + 1)) = q at *
     generalize dv 0 (((bytesOf t).drop (p + 1)).take q) = v at *
     by_cases hz : p + 1 + q = (bytesOf t).length
     ·simp only [if_pos (show ((p + 1 + q : Nat) : Int) = (t.size : Int) by omega)]
      by_cases hv : v > 0
      ·simp only [if_pos hv]
       obtain rfl : c = (w, v) := hc.trans (if_pos ⟨hz, hv⟩)
       exact spec_rf_j5 s m w v (by omega) (by omega)
      ·simp only [if_neg hv]
       obtain rfl : c = (0, 0) := hc.trans (if_neg (fun h => hv h.2))
       exact spec_rf_j5 s m 0 0 (by omega) (by omega)
     ·simp only [if_neg (show ¬ ((p + 1 + q : Nat) : Int) = (t.size : Int) by omega)]
      obtain rfl : c = (0, 0) := hc.trans (if_neg (fun h => hz h.1))
      exact spec_rf_j5 s m 0 0 (by omega) (by omega)
    ·obtain rfl : c = (0, 0) := hc.trans (if_neg (fun h => h47 h.2.2))
     rw [beq_eq_false_iff_ne.2 h47]
     exact j4f 0 0 (by omega) (by omega)
  ·simp only [if_neg (show ¬ ((p : Nat) : Int) > 0 by omega)]
   obtain rfl : c = (0, 0) := (hc.trans (if_neg (fun h => hp0 h.1))).trans (if_neg (fun h => hp0 h.1))
   refine Ev.step (fun k => by rw [spec_ReadFraction.j2]) ?_
   simp only [Bool.false_eq_true, if_false]
   refine Ev.step (fun k => by rw [spec_ReadFraction.j3]) ?_
   simp only [if_neg (show ¬ ((p : Nat) : Int) > 0 by omega)]
   exact j4f 0 0 (by omega) (by omega)
theorem spec_rf (s : ByteArray) (hs : s.size ≤ 1152921504606846976) : Ev (fun k => spec_ReadFraction.f k s) (rdS (bytesOf s)) := by
 have hR : rdS (bytesOf s) = if bytesOf (ftx (neg (unsg (bytesOf s)).2 (candS (unsg (bytesOf s)).1).1) (candS (unsg (bytesOf s)).1).2) = bytesOf s ∧ bytesOf s ≠ [] then (neg (unsg (bytesOf s)).2 (candS (unsg (bytesOf s)).1).1, (candS (unsg (bytesOf s)).1).2, true) else noF := rfl
 rw [hR]
 obtain ⟨_, h2, h3⟩ := prefix_ev s (by omega)
 have hlen := bytesOf_length s
 have hbt := bt_nat s 0
 have hun : (unsg (bytesOf s)).2 = ((bytesOf s).getD 0 0 == 45) := by
  cases bytesOf s with
  | nil => rfl
  | cons x l =>
   rw [List.getD_cons_zero]
   show (if x = 45 then (l, true) else (x :: l, false)).2 = (x == 45)
   by_cases hx : x = 45
   ·subst hx; rfl
   ·rw [if_neg hx]; exact (beq_eq_false_iff_ne.2 hx).symm
 have fin : Ev (fun k => spec_ReadFraction.j0 k s s 1 (unsg (bytesOf s)).2) (if bytesOf (ftx (neg (unsg (bytesOf s)).2 (candS (unsg (bytesOf s)).1).1) (candS (unsg (bytesOf s)).1).2) = bytesOf s ∧ bytesOf s ≠ [] then (neg (unsg (bytesOf s)).2 (candS (unsg (bytesOf s)).1).1, (candS (unsg (bytesOf s)).1).2, true) else noF) := by
  refine Ev.step (fun k => by rw [spec_ReadFraction.j0]) ?_
  cases hm : (unsg (bytesOf s)).2 with
  | true =>
   have hne : bytesOf s ≠ [] := by intro e; rw [e] at hm; cases hm
   have h1 : 1 ≤ s.size := by
    rw [size_bytes]
    cases h : bytesOf s with
    | nil => exact absurd h hne
    | cons x l => rw [List.length_cons]; omega
   simp only [if_true, if_pos (show (1 : Int) ≤ (s.size : Int) by omega)]
   have := spec_rf_j1 s (s.extract 1 s.size) true (by rw [ByteArray.size_extract]; omega)
   rw [h2 hm] at this
   exact this
  | false =>
   simp only [Bool.false_eq_true, if_false]
   have := spec_rf_j1 s s false hs
   rw [← h3 hm]
   exact this
 unfold spec_ReadFraction.f
 by_cases hn : bytesOf s = []
 ·simp only [if_pos ((toList_nil_iff s).2 hn)]
  have : (unsg (bytesOf s)).2 = false := by rw [hn]; rfl
  rw [this] at fin
  rw [this]; exact fin
 ·have h1 : 0 < s.size := by
   rw [size_bytes]
   cases h : bytesOf s with
   | nil => exact absurd h hn
   | cons x l => rw [List.length_cons]; omega
  simp only [if_neg (fun h => hn ((toList_nil_iff s).1 h)), if_pos (show (0 : Int) < (s.size : Int) by omega)]
  rw [show bt s 0 = (bytesOf s).getD 0 0 from hbt, ← hun]
  exact fin

def okb (x : Int) : Bool := x == 10 || (decide (32 ≤ x) && decide (x ≤ 126))
def tv (l : List Int) : Bool := l.all okb && decide (l.length ≤ 20000)
theorem okb_ten : okb 10 = true := rfl
theorem okb_in (x : Int) (h : ¬ x = 10) : okb x = (decide (32 ≤ x) && decide (x ≤ 126)) := by
 unfold okb; rw [beq_eq_false_iff_ne.mpr h]; rfl

theorem in_eq (x : Int) : impl_in.f x 32 126 = some (decide (32 ≤ x) && decide (x ≤ 126)) := by
 unfold impl_in.f
 by_cases h : x ≥ 32
 ·rw [if_pos h, decide_eq_true h]; rfl
 ·rw [if_neg h, decide_eq_false h]; rfl
theorem impl_tv_l (s : ByteArray) (hs : s.size ≤ 140737488351232) : ∀ (l : List Int) (i : Nat), (bytesOf s).drop i = l → i ≤ s.size →
  Ev (fun k => impl_TextValid.l0 k s (i : Int)) (l.all okb && decide ((bytesOf s).length ≤ 20000)) := by
 intro l
 induction l with
 | nil =>
  intro i hl hi
  have hn : s.size = i := by
   have := List.drop_eq_nil_iff.1 hl
   rw [bytesOf_length] at this; omega
  refine Ev.step (fun k => by rw [impl_TextValid.l0]) (ev_const fun k => ?_)
  rw [if_neg (by omega), bytesOf_length]; simp; omega
 | cons x l ih =>
  intro i hl hi
  have hlt : i < s.size := by
   rcases Nat.lt_or_ge i s.size with h | h
   ·exact h
   ·rw [List.drop_eq_nil_iff.2 (by rw [bytesOf_length]; exact h)] at hl; cases hl
  have hd := drop_cons (bytesOf s) i (by rw [bytesOf_length]; exact hlt)
  rw [hd] at hl
  obtain ⟨hx, hl'⟩ := List.cons.inj hl
  have hr := getD_range s i
  have hb := bt_nat s i
  rw [hx] at hb hr
  have h1 := ih (i + 1) hl' (by omega)
  refine Ev.step (fun k => by rw [impl_TextValid.l0]) ?_
  simp only [hb, w64s (show i + 1 < 9223372036854775808 by omega), w64 (n := x) (by omega) (by omega), in_eq, Option.bind_some, show (i : Int) < (s.size : Int) by omega, show (0 : Int) ≤ (i : Int) by omega, if_true]
  by_cases h10 : x = 10
  ·subst h10
   simp only [if_true, List.all_cons, okb_ten, Bool.true_and]; exact h1
  ·simp only [h10, if_false, List.all_cons, okb_in x h10]
   cases hq : (decide (32 ≤ x) && decide (x ≤ 126))
   ·simp; exact Ev.now _
   ·simp; simpa using h1
theorem impl_tv (s : ByteArray) (hs : s.size ≤ 140737488351232) : Ev (fun k => impl_TextValid.f k s) (tv (bytesOf s)) := by
 have := impl_tv_l s hs (bytesOf s) 0 rfl (by omega)
 exact this

theorem l1In_eq (x : Int) : spec_l1In.f x 32 126 = some (decide (32 ≤ x) && decide (x ≤ 126)) := by
 unfold spec_l1In.f
 by_cases h : x ≥ 32
 ·rw [if_pos h, decide_eq_true h]; rfl
 ·rw [if_neg h, decide_eq_false h]; rfl
theorem spec_tv_l (s : ByteArray) (hs : s.size ≤ 140737488351232) : ∀ (l : List Int) (i : Nat), (bytesOf s).drop i = l → i ≤ s.size →
  Ev (fun k => spec_TextValid.l0 k s (i : Int)) (l.all okb && decide ((bytesOf s).length ≤ 20000)) := by
 intro l
 induction l with
 | nil =>
  intro i hl hi
  have hn : s.size = i := by
   have := List.drop_eq_nil_iff.1 hl
   rw [bytesOf_length] at this; omega
  refine Ev.step (fun k => by rw [spec_TextValid.l0]) (ev_const fun k => ?_)
  rw [if_neg (by omega), bytesOf_length]; simp; omega
 | cons x l ih =>
  intro i hl hi
  have hlt : i < s.size := by
   rcases Nat.lt_or_ge i s.size with h | h
   ·exact h
   ·rw [List.drop_eq_nil_iff.2 (by rw [bytesOf_length]; exact h)] at hl; cases hl
  have hd := drop_cons (bytesOf s) i (by rw [bytesOf_length]; exact hlt)
  rw [hd] at hl
  obtain ⟨hx, hl'⟩ := List.cons.inj hl
  have hr := getD_range s i
  have hb := bt_nat s i
  rw [hx] at hb hr
  have h1 := ih (i + 1) hl' (by omega)
  refine Ev.step (fun k => by rw [spec_TextValid.l0]) ?_
  simp only [hb, w64s (show i + 1 < 9223372036854775808 by omega), w64 (n := x) (by omega) (by omega), l1In_eq, Option.bind_some, show (i : Int) < (s.size : Int) by omega, show (0 : Int) ≤ (i : Int) by omega, if_true]
  by_cases h10 : x = 10
  ·subst h10
   simp only [if_true, List.all_cons, okb_ten, Bool.true_and]; exact h1
  ·simp only [h10, if_false, List.all_cons, okb_in x h10]
   cases hq : (decide (32 ≤ x) && decide (x ≤ 126))
   ·simp; exact Ev.now _
   ·simp; simpa using h1
theorem spec_tv (s : ByteArray) (hs : s.size ≤ 140737488351232) : Ev (fun k => spec_TextValid.f k s) (tv (bytesOf s)) := by
 have := spec_tv_l s hs (bytesOf s) 0 rfl (by omega)
 exact this

theorem index_mem (c : UInt8) : ∀ l : List UInt8, (0 ≤ Lib.indexByte l c) ↔ c ∈ l
 | [] => by simp [Lib.indexByte]
 | b :: l => by
  have ih := index_mem c l
  have hg := Lib.indexByte_ge l c
  rw [Lib.indexByte]
  by_cases h : (b == c) = true
  ·rw [if_pos h]
   have := eq_of_beq h
   subst this
   simp
  ·rw [if_neg h]
   have hne : ¬ c = b := fun e => h (by rw [e]; exact beq_self_eq_true _)
   by_cases h2 : (Lib.indexByte l c == -1) = true
   ·rw [if_pos h2]
    have e := eq_of_beq h2
    rw [e] at ih
    simp only [List.mem_cons, hne, false_or]
    constructor
    ·intro h; omega
    ·intro h; have := ih.2 h; omega
   ·rw [if_neg h2]
    have e : Lib.indexByte l c ≠ -1 := fun e => h2 (by rw [e]; rfl)
    simp only [List.mem_cons, hne, false_or]
    constructor
    ·intro h; exact ih.1 (by omega)
    ·intro h; have := ih.2 h; omega
theorem mem_bytes (s : ByteArray) (c : UInt8) : c ∈ s.data.toList ↔ (bytesOf s).contains (c.toNat : Int) = true := by
 unfold bytesOf
 rw [List.contains_iff_mem]
 constructor
 ·intro h; exact List.mem_map.2 ⟨c, h, rfl⟩
 ·intro h
  obtain ⟨b, hb, e⟩ := List.mem_map.1 h
  have : b = c := UInt8.toNat_inj.1 (by omega)
  rw [← this]; exact hb

def splitA (c : Int) : List Int → List Int → List (List Int)
 | cur, [] => [cur]
 | cur, x :: l => if x = c then cur :: splitA c [] l else splitA c (cur ++ [x]) l
def cnt (c : Int) : List Int → Nat
 | [] => 0
 | x :: l => if x = c then cnt c l + 1 else cnt c l
theorem cnt_le (c : Int) : ∀ l : List Int, cnt c l ≤ l.length
 | [] => Nat.le_refl _
 | x :: l => by
  have := cnt_le c l
  rw [cnt, List.length_cons]
  split <;> omega
theorem fst_lt (c : Int) : ∀ l : List Int, 1 ≤ cnt c l → fst c l < l.length
 | [], h => by simp [cnt] at h
 | x :: l, h => by
  rw [fst, List.length_cons]
  by_cases hx : x = c
  ·rw [if_pos hx]; omega
  ·rw [if_neg hx]
   rw [cnt, if_neg hx] at h
   have := fst_lt c l h
   omega
theorem cnt_drop (c : Int) : ∀ l : List Int, 1 ≤ cnt c l → cnt c (l.drop (fst c l + 1)) + 1 = cnt c l
 | [], h => by simp [cnt] at h
 | x :: l, h => by
  by_cases hx : x = c
  ·rw [fst, if_pos hx, cnt, if_pos hx]; rfl
  ·rw [cnt, if_neg hx] at h ⊢
   rw [fst, if_neg hx, List.drop_succ_cons]
   exact cnt_drop c l h
theorem splitA_none (c : Int) : ∀ (l cur : List Int), cnt c l = 0 → splitA c cur l = [cur ++ l]
 | [], cur, _ => by rw [splitA, List.append_nil]
 | x :: l, cur, h => by
  rw [cnt] at h
  by_cases hx : x = c
  ·rw [if_pos hx] at h; omega
  ·rw [if_neg hx] at h
   rw [splitA, if_neg hx, splitA_none c l _ h, List.append_assoc]; rfl
theorem splitA_some (c : Int) : ∀ (l cur : List Int), 1 ≤ cnt c l → splitA c cur l = (cur ++ l.take (fst c l)) :: splitA c [] (l.drop (fst c l + 1))
 | [], cur, h => by simp [cnt] at h
 | x :: l, cur, h => by
  by_cases hx : x = c
  ·rw [splitA, if_pos hx, fst, if_pos hx]; simp
  ·rw [cnt, if_neg hx] at h
   rw [splitA, if_neg hx, splitA_some c l _ h, fst, if_neg hx, List.take_succ_cons, List.drop_succ_cons, List.append_assoc]; rfl
theorem index_fst (c : UInt8) : ∀ l : List UInt8, 1 ≤ cnt (c.toNat : Int) (l.map fun b => (b.toNat : Int)) → Lib.indexByte l c = (fst (c.toNat : Int) (l.map fun b => (b.toNat : Int)) : Int)
 | [], h => by simp [cnt] at h
 | b :: l, h => by
  rw [Lib.indexByte, List.map_cons, fst]
  rw [List.map_cons, cnt] at h
  by_cases hb : (b == c) = true
  ·have e := eq_of_beq hb
   rw [if_pos hb, if_pos (by rw [e])]; rfl
  ·have hne : ¬ ((b.toNat : Int) = (c.toNat : Int)) := fun e => hb (by rw [UInt8.toNat_inj.1 (show b.toNat = c.toNat by omega)]; exact beq_self_eq_true _)
   rw [if_neg hne] at h
   have ih := index_fst c l h
   rw [if_neg hb, if_neg hne]
   have hm : ¬ ((Lib.indexByte l c == -1) = true) := by
    rw [ih]; intro e
    have := eq_of_beq e
    omega
   rw [if_neg hm, ih]; omega
theorem count_cnt (c : UInt8) : ∀ l : List UInt8, (Lib.countByte l c : Nat) = cnt (c.toNat : Int) (l.map fun b => (b.toNat : Int))
 | [] => rfl
 | b :: l => by
  have ih := count_cnt c l
  rw [List.map_cons, cnt, ← ih]
  unfold Lib.countByte
  by_cases hb : b = c
  ·rw [if_pos (by rw [hb]), hb]; simp
  ·have hne : ¬ ((b.toNat : Int) = (c.toNat : Int)) := fun e => hb (UInt8.toNat_inj.1 (show b.toNat = c.toNat by omega))
   rw [if_neg hne]; simp [hb]
/-- the parts of a text. -/
def splitS (c : Int) : Nat → ByteArray → List ByteArray
 | 0, s => [s]
 | n + 1, s => s.extract 0 (fst c (bytesOf s)) :: splitS c n (s.extract (fst c (bytesOf s) + 1) s.size)
theorem bytesOf_rest (s : ByteArray) (i : Nat) : bytesOf (s.extract i s.size) = (bytesOf s).drop i := by
 rw [bytesOf_cut, List.take_of_length_le (by rw [bytesOf_length]; exact Nat.le_refl _)]
theorem splitS_bytes (c : Int) : ∀ (n : Nat) (s : ByteArray), cnt c (bytesOf s) = n → (splitS c n s).map bytesOf = splitA c [] (bytesOf s)
 | 0, s, h => by rw [splitA_none c _ _ h]; rfl
 | n + 1, s, h => by
  rw [splitA_some c _ _ (by omega), splitS, List.map_cons, splitS_bytes c n _ (by rw [bytesOf_rest]; have := cnt_drop c (bytesOf s) (by omega); omega), bytesOf_rest, bytesOf_cut]
  rfl
theorem splitS_len (c : Int) : ∀ (n : Nat) (s : ByteArray), (splitS c n s).length = n + 1
 | 0, _ => rfl
 | n + 1, s => by rw [splitS, List.length_cons, splitS_len c n]
theorem split_l (s0 sep : ByteArray) (c : UInt8) (hsep : sep = (⟨#[c]⟩ : ByteArray)) (a2 : Int) (h2 : a2 = 0) (N : Nat) (hN : N ≤ 1099511627776) : ∀ (n : Nat) (s : ByteArray) (pre : List ByteArray), pre.length + n = N → cnt (c.toNat : Int) (bytesOf s) = n → s.size ≤ 1099511627776 →
  Ev (fun k => strings_genSplit.l0 k s sep a2 (N : Int) (pre ++ List.replicate (n + 1) (⟨#[]⟩ : ByteArray)) (pre.length : Int)) (pre ++ splitS (c.toNat : Int) n s) := by
 have hone : sep.size = 1 := by rw [hsep]; rfl
 have hget : sep.data.toList.getD 0 0 = c := by rw [hsep]; rfl
 have hset : ∀ (pre R : List ByteArray) (u v : ByteArray), (pre ++ u :: R).set pre.length v = pre ++ v :: R := by
  intro pre R u v
  rw [List.set_append_right _ _ (Nat.le_refl _), Nat.sub_self]; rfl
 intro n
 induction n with
 | zero =>
  intro s pre hp hc hs
  have hlen : (pre ++ List.replicate (0 + 1) (⟨#[]⟩ : ByteArray)).length = pre.length + 1 := by simp
  refine Ev.step (fun k => by rw [strings_genSplit.l0]) ?_
  have e1 : pre ++ List.replicate (0 + 1) (⟨#[]⟩ : ByteArray) = pre ++ (⟨#[]⟩ : ByteArray) :: [] := rfl
  simp only [hlen, if_neg (show ¬ (pre.length : Int) < (N : Int) by omega), if_pos (show (0 : Int) ≤ (pre.length : Int) by omega), if_pos (show (pre.length : Int) < ((pre.length + 1 : Nat) : Int) by omega), w64s (show pre.length + 1 < 9223372036854775808 by omega),
   if_pos (show (0 : Int) ≤ ((pre.length + 1 : Nat) : Int) by omega), if_pos (show ((pre.length + 1 : Nat) : Int) ≤ ((pre.length + 1 : Nat) : Int) by omega), Int.toNat_natCast]
  rw [e1, hset]
  have e2 : (pre ++ [s]).take (pre.length + 1) = pre ++ [s] := List.take_of_length_le (by simp)
  rw [e2]
  exact Ev.now _
 | succ n ih =>
  intro s pre hp hc hs
  have hlen : (pre ++ List.replicate (n + 1 + 1) (⟨#[]⟩ : ByteArray)).length = pre.length + (n + 2) := by simp
  have hf := fst_lt (c.toNat : Int) (bytesOf s) (by omega)
  rw [bytesOf_length] at hf
  have hi : strings_Index.f s sep = some ((fst (c.toNat : Int) (bytesOf s) : Nat) : Int) := by
   unfold strings_Index.f
   rw [if_pos hone, hget]
   congr 1
   exact index_fst c _ (by show 1 ≤ cnt _ (bytesOf s); omega)
  have hcd := cnt_drop (c.toNat : Int) (bytesOf s) (by omega)
  have h := ih (s.extract (fst (c.toNat : Int) (bytesOf s) + 1) s.size) (pre ++ [s.extract 0 (fst (c.toNat : Int) (bytesOf s))]) (by simp; omega) (by rw [bytesOf_rest]; omega) (by rw [ByteArray.size_extract]; omega)
  simp only [List.length_append, List.length_cons, List.length_nil, List.append_assoc, List.cons_append, List.nil_append, Nat.zero_add] at h
  rw [splitS]
  subst h2
  clear hcd hc ih hget
  generalize fst (c.toNat : Int) (bytesOf s) = f at hf hi h ⊢
  refine Ev.step (fun k => by rw [strings_genSplit.l0]) ?_
  have w1 : wrap64 ((f : Int) + 0) = (f : Int) := by rw [Int.add_zero, w64n (by omega)]
  have w2 : wrap64 ((f : Int) + ((1 : Nat) : Int)) = ((f + 1 : Nat) : Int) := w64s (by omega)
  have e1 : pre ++ List.replicate (n + 1 + 1) (⟨#[]⟩ : ByteArray) = pre ++ (⟨#[]⟩ : ByteArray) :: List.replicate (n + 1) (⟨#[]⟩ : ByteArray) := rfl
  have g1 : (pre.length : Int) < (N : Int) := by omega
  have g2 : ¬ (f : Int) < 0 := by omega
  have g3 : (0 : Int) ≤ (f : Int) := by omega
  have g4 : (f : Int) ≤ (s.size : Int) := by omega
  have g5 : (0 : Int) ≤ (pre.length : Int) := by omega
  have g6 : (pre.length : Int) < ((pre.length + (n + 2) : Nat) : Int) := by omega
  have g7 : (0 : Int) ≤ ((f + 1 : Nat) : Int) := by omega
  have g8 : ((f + 1 : Nat) : Int) ≤ (s.size : Int) := by omega
  have g9 : wrap64 ((pre.length : Int) + 1) = ((pre.length + 1 : Nat) : Int) := w64s (by omega)
  simp only [hlen, if_pos g1]
  refine ev_bind (a := (f : Int)) (ev_const fun _ => hi) ?_
  simp only [hone, w1, w2, if_neg g2, if_pos g3, if_pos g4, if_pos g5, if_pos g6, if_pos g7, if_pos g8, g9, Int.toNat_natCast]
  rw [e1, hset]
  exact h
theorem split_ev (s : ByteArray) (c : UInt8) (hs : s.size ≤ 1099511627776) : Ev (fun k => strings_Split.f k s (⟨#[c]⟩ : ByteArray)) (splitS (c.toNat : Int) (cnt (c.toNat : Int) (bytesOf s)) s) := by
 unfold strings_Split.f strings_genSplit.f
 have hne : ¬ ((⟨#[c]⟩ : ByteArray).toList = ([] : List UInt8)) := by rw [toList_data]; simp
 have hc : strings_Count.f s (⟨#[c]⟩ : ByteArray) = some ((cnt (c.toNat : Int) (bytesOf s) : Nat) : Int) := by
  unfold strings_Count.f
  rw [if_pos (show (⟨#[c]⟩ : ByteArray).size = 1 from rfl)]
  congr 1
  exact congrArg Int.ofNat (count_cnt c s.data.toList)
 have hle := cnt_le (c.toNat : Int) (bytesOf s)
 rw [bytesOf_length] at hle
 have key := fun n hn hc => split_l s (⟨#[c]⟩ : ByteArray) c rfl 0 rfl n hn n s [] (by simp) hc hs
 have kc : ∀ n, n = cnt (c.toNat : Int) (bytesOf s) → Ev (fun k => strings_genSplit.l0 k s (⟨#[c]⟩ : ByteArray) 0 (n : Int) ([] ++ List.replicate (n + 1) (⟨#[]⟩ : ByteArray)) (([] : List ByteArray).length : Int)) ([] ++ splitS (c.toNat : Int) n s) := fun n hn => key n (by omega) hn.symm
 have kd := kc _ rfl
 clear key kc
 generalize cnt (c.toNat : Int) (bytesOf s) = n at hc hle kd ⊢
 have g1 : wrap64 ((n : Int) + 1) = ((n + 1 : Nat) : Int) := w64s (by omega)
 have g2 : wrap64 ((s.size : Int) + 1) = ((s.size + 1 : Nat) : Int) := w64s (by omega)
 simp only [if_neg (show ¬ (-1 : Int) = 0 by omega), if_neg hne, if_pos (show (-1 : Int) < 0 by omega), hc, Option.bind_some, g1]
 refine ev_bind (a := splitS (c.toNat : Int) n s) ?_ (Ev.now _)
 refine Ev.step (fun k => by rw [strings_genSplit.j0]) ?_
 have hmn : mn ((n + 1 : Nat) : Int) ((s.size + 1 : Nat) : Int) = ((n + 1 : Nat) : Int) := by
  unfold mn; split <;> omega
 have g3 : (0 : Int) ≤ ((n + 1 : Nat) : Int) := by omega
 have g4 : n + 1 ≤ 17592186044416 := by omega
 have g5 : wrap64 (((n + 1 : Nat) : Int) - 1) = (n : Int) := by rw [w64 (by omega) (by omega)]; omega
 simp only [g2, hmn, if_pos g3, Int.toNat_natCast, if_pos g4, g5]
 exact kd

def letb (x : Int) : Bool := decide (97 ≤ x) && decide (x ≤ 122)
def digb (x : Int) : Bool := decide (48 ≤ x) && decide (x ≤ 57)
def okat (n : Nat) (x : Int) : Bool := letb x || (decide (n ≠ 0) && (digb x || x == 95))
def nv : Nat → List Int → Bool
 | n, [] => decide (0 < n)
 | n, x :: l => if x = 46 ∧ 0 < n then nv 0 l else okat n x && decide (n + 1 ≤ 12) && nv (n + 1) l
def vb : Nat → List Int → Bool
 | _, [] => true
 | n, x :: l => okat n x && vb (n + 1) l
def partOk (p : List Int) : Bool := vb 0 p && decide (1 ≤ p.length) && decide (p.length ≤ 12)
theorem vb_app : ∀ (a b : List Int) (n : Nat), vb n (a ++ b) = (vb n a && vb (n + a.length) b)
 | [], b, n => by simp [vb]
 | x :: a, b, n => by
  rw [List.cons_append, vb, vb, vb_app a b (n + 1), List.length_cons, Bool.and_assoc, show n + (a.length + 1) = n + 1 + a.length by omega]
theorem okat_dot (n : Nat) : okat n 46 = false := by
 unfold okat letb digb; simp
def badP (p : List Int) : Prop := vb 0 p = false ∨ 12 < p.length
theorem badP_ok {p : List Int} (h : badP p) : partOk p = false := by
 unfold partOk
 rcases h with h | h
 ·rw [h]; rfl
 ·rw [decide_eq_false (show ¬ p.length ≤ 12 by omega), Bool.and_false]
theorem badP_app {p : List Int} (h : badP p) (q : List Int) : badP (p ++ q) := by
 rcases h with h | h
 ·left; rw [vb_app, h]; rfl
 ·right; rw [List.length_append]; omega
theorem splitA_bad : ∀ (l cur : List Int), badP cur → (splitA 46 cur l).all partOk = false
 | [], cur, h => by rw [splitA, List.all_cons, badP_ok h]; rfl
 | x :: l, cur, h => by
  rw [splitA]
  by_cases hx : x = 46
  ·rw [if_pos hx, List.all_cons, badP_ok h]; rfl
  ·rw [if_neg hx]; exact splitA_bad l _ (badP_app h _)
theorem splitA_nv : ∀ (l cur : List Int), vb 0 cur = true → cur.length ≤ 12 → (splitA 46 cur l).all partOk = nv cur.length l
 | [], cur, h, hl => by
  rw [splitA, nv, List.all_cons, List.all_nil, Bool.and_true]
  unfold partOk
  rw [h, decide_eq_true hl, Bool.and_true, Bool.true_and]; rfl
 | x :: l, cur, h, hl => by
  rw [splitA, nv]
  by_cases hx : x = 46
  ·rw [if_pos hx, List.all_cons]
   have ih := splitA_nv l [] rfl (by simp)
   by_cases h0 : 0 < cur.length
   ·rw [if_pos ⟨hx, h0⟩, ih]
    have : partOk cur = true := by unfold partOk; rw [h, decide_eq_true (show 1 ≤ cur.length by omega), decide_eq_true hl]; rfl
    rw [this, Bool.true_and]; rfl
   ·rw [if_neg (fun e => h0 e.2)]
    have hc : cur = [] := List.length_eq_zero_iff.1 (by omega)
    subst hc
    rw [hx, okat_dot]
    rfl
  ·rw [if_neg hx, if_neg (fun e => hx e.1)]
   by_cases ho : okat cur.length x = true ∧ cur.length + 1 ≤ 12
   ·have := splitA_nv l (cur ++ [x]) (by rw [vb_app, h, Nat.zero_add, vb, vb, ho.1]; rfl) (by rw [List.length_append]; exact ho.2)
    rw [this, ho.1, decide_eq_true ho.2, List.length_append]; rfl
   ·have hb : badP (cur ++ [x]) := by
     by_cases h1 : okat cur.length x = true
     ·right
      rw [List.length_append, List.length_cons, List.length_nil]
      have : ¬ cur.length + 1 ≤ 12 := fun e => ho ⟨h1, e⟩
      omega
     ·left
      rw [vb_app, h, Nat.zero_add, vb, vb]
      cases hh : okat cur.length x
      ·rfl
      ·exact absurd hh h1
    rw [splitA_bad l _ hb]
    cases h1 : okat cur.length x
    ·rfl
    ·rw [decide_eq_false (fun e => ho ⟨h1, e⟩)]; rfl
/-- whether a text is a name. -/
def nameV (s : ByteArray) : Bool := nv 0 (bytesOf s) && (s.toList != ([116, 114, 117, 101] : List UInt8)) && (s.toList != ([102, 97, 108, 115, 101] : List UInt8))
theorem end_nv (s : ByteArray) : (if s.toList = ([116, 114, 117, 101] : List UInt8) then (some false) else (some (s.toList != ([102, 97, 108, 115, 101] : List UInt8)))) = some ((s.toList != ([116, 114, 117, 101] : List UInt8)) && (s.toList != ([102, 97, 108, 115, 101] : List UInt8))) := by
 by_cases h : s.toList = ([116, 114, 117, 101] : List UInt8)
 ·rw [if_pos h, h]; rfl
 ·rw [if_neg h, bne_iff_ne.mpr h, Bool.true_and]

theorem nsmall (x : Int) (h : 0 ≤ x ∧ x ≤ 255) : impl_isSmall.f x = some (letb x) := by
 unfold impl_isSmall.f impl_in.f letb
 rw [w64 (by omega) (by omega)]
 by_cases h1 : x ≥ 97
 ·rw [if_pos h1, decide_eq_true (show 97 ≤ x from h1)]; simp
 ·rw [if_neg h1, decide_eq_false (show ¬ 97 ≤ x from h1)]; simp
theorem ndigit (x : Int) (h : 0 ≤ x ∧ x ≤ 255) : impl_isDigit.f x = some (digb x) := by
 unfold impl_isDigit.f impl_in.f digb
 rw [w64 (by omega) (by omega)]
 by_cases h1 : x ≥ 48
 ·rw [if_pos h1, decide_eq_true (show 48 ≤ x from h1)]; simp
 ·rw [if_neg h1, decide_eq_false (show ¬ 48 ≤ x from h1)]; simp
theorem i_part_l (s : ByteArray) (hs : s.size ≤ 1048576) : ∀ (l : List Int) (i : Nat), (bytesOf s).drop i = l → i ≤ s.size →
  Ev (fun k => impl_partValid.l0 k s (i : Int)) (vb i l && decide (1 ≤ s.size) && decide (s.size ≤ 12)) := by
 intro l
 induction l with
 | nil =>
  intro i hl hi
  have hz : s.size = i := by
   have := List.drop_eq_nil_iff.1 hl
   rw [bytesOf_length] at this; omega
  refine Ev.step (fun k => by rw [impl_partValid.l0]) (ev_const fun k => ?_)
  rw [if_neg (by omega), vb, Bool.true_and]
  unfold impl_in.f
  by_cases h1 : (s.size : Int) ≥ 1
  ·rw [if_pos h1, decide_eq_true (show 1 ≤ s.size by omega), Bool.true_and, Option.bind_some]
   congr 1
   exact decide_eq_decide.2 (by omega)
  ·rw [if_neg h1, decide_eq_false (show ¬ 1 ≤ s.size by omega)]; rfl
 | cons x l ih =>
  intro i hl hi
  have hlt : i < s.size := by
   rcases Nat.lt_or_ge i s.size with h | h
   ·exact h
   ·rw [List.drop_eq_nil_iff.2 (by rw [bytesOf_length]; exact h)] at hl; cases hl
  have hd := drop_cons (bytesOf s) i (by rw [bytesOf_length]; exact hlt)
  rw [hd] at hl
  obtain ⟨hx, hl'⟩ := List.cons.inj hl
  have hb := bt_nat s i
  have hr := getD_range s i
  rw [hx] at hb hr
  have h1 := ih (i + 1) hl' (by omega)
  refine Ev.step (fun k => by rw [impl_partValid.l0]) ?_
  simp only [hb, if_pos (show (i : Int) < (s.size : Int) by omega), if_pos (show (0 : Int) ≤ (i : Int) by omega), nsmall x hr, ndigit x hr, Option.bind_some, w64s (show i + 1 < 9223372036854775808 by omega)]
  rw [vb]
  unfold okat
  cases hlet : letb x
  ·simp only [Bool.false_eq_true, if_false, Bool.false_or]
   by_cases h0 : i = 0
   ·simp only [if_pos (show (i : Int) = 0 by omega), h0, ne_eq, not_true, decide_false, Bool.false_and]
    exact Ev.now _
   ·simp only [if_neg (show ¬ (i : Int) = 0 by omega), h0, ne_eq, not_false_iff, decide_true, Bool.true_and]
    cases hdig : digb x
    ·simp only [Bool.false_eq_true, if_false, Bool.false_or]
     by_cases h95 : x = 95
     ·simp only [if_pos h95, beq_iff_eq.mpr h95, Bool.true_and]; exact h1
     ·simp only [if_neg h95, beq_eq_false_iff_ne.mpr h95, Bool.false_and]; exact Ev.now _
    ·simp only [if_true, Bool.true_or, Bool.true_and]; exact h1
  ·simp only [if_true, Bool.true_or, Bool.true_and]; exact h1
theorem impl_part (s : ByteArray) (hs : s.size ≤ 1048576) : Ev (fun k => impl_partValid.f k s) (partOk (bytesOf s)) := by
 have := i_part_l s hs _ 0 rfl (by omega)
 unfold partOk
 rw [bytesOf_length]
 exact this
theorem i_nv_l (s : ByteArray) (P : List ByteArray) (hP : ∀ p ∈ P, p.size ≤ 1048576) (hl : P.length ≤ 1048577) : ∀ (R : List ByteArray) (j : Nat), P.drop j = R → j ≤ P.length →
  Ev (fun k => impl_NameValid.l0 k s P (P.length : Int) (j : Int)) ((R.map bytesOf).all partOk && ((s.toList != ([116, 114, 117, 101] : List UInt8)) && (s.toList != ([102, 97, 108, 115, 101] : List UInt8)))) := by
 intro R
 induction R with
 | nil =>
  intro j hd hj
  have hn := List.drop_eq_nil_iff.1 hd
  refine Ev.step (fun k => by rw [impl_NameValid.l0]) (ev_const fun k => ?_)
  rw [if_neg (show ¬ (j : Int) < (P.length : Int) by omega), end_nv]; rfl
 | cons p R ih =>
  intro j hd hj
  have hlt : j < P.length := by
   rcases Nat.lt_or_ge j P.length with h | h
   ·exact h
   ·rw [List.drop_eq_nil_iff.2 h] at hd; cases hd
  have hd' := hd
  rw [List.drop_eq_getElem_cons hlt] at hd'
  obtain ⟨hp, hR⟩ := List.cons.inj hd'
  have hg : P.getD j ByteArray.empty = p := by rw [List.getD_eq_getElem?_getD, List.getElem?_eq_getElem hlt, hp]; rfl
  have hm : p ∈ P := by rw [← hp]; exact List.getElem_mem hlt
  have h1 := ih (j + 1) hR (by omega)
  refine Ev.step (fun k => by rw [impl_NameValid.l0]) ?_
  simp only [rdOf_nat, hg, if_pos (show (j : Int) < (P.length : Int) by omega), if_pos (show (0 : Int) ≤ (j : Int) by omega), w64s (show j + 1 < 9223372036854775808 by omega)]
  refine ev_bind (impl_part p (hP p hm)) ?_
  rw [List.map_cons, List.all_cons]
  cases partOk (bytesOf p)
  ·simp only [Bool.false_eq_true, if_false, Bool.false_and]; exact Ev.now _
  ·simp only [if_true, Bool.true_and]; exact h1
theorem splitS_small (c : Int) : ∀ (n : Nat) (s p : ByteArray), p ∈ splitS c n s → p.size ≤ s.size
 | 0, s, p, h => by
  rw [splitS, List.mem_singleton] at h
  rw [h]; exact Nat.le_refl _
 | n + 1, s, p, h => by
  rw [splitS] at h
  rcases List.mem_cons.1 h with h | h
  ·rw [h, ByteArray.size_extract]; omega
  ·have := splitS_small c n _ p h
   rw [ByteArray.size_extract] at this; omega
theorem impl_nv (s : ByteArray) (hs : s.size ≤ 1048576) : Ev (fun k => impl_NameValid.f k s) (nameV s) := by
 unfold impl_NameValid.f
 have hc := cnt_le 46 (bytesOf s)
 rw [bytesOf_length] at hc
 refine ev_bind (split_ev s 46 (by omega)) ?_
 have h := i_nv_l s (splitS 46 (cnt 46 (bytesOf s)) s) (fun p hp => by have := splitS_small 46 _ s p hp; omega) (by rw [splitS_len]; omega) (splitS 46 (cnt 46 (bytesOf s)) s) 0 rfl (by omega)
 rw [splitS_bytes 46 _ s rfl, splitA_nv _ [] rfl (by simp)] at h
 unfold nameV
 rw [Bool.and_assoc]
 exact h

theorem nletb (x : Int) : spec_l3Letter.f x = some (letb x) := by
 unfold spec_l3Letter.f letb
 by_cases h : x ≥ 97
 ·rw [if_pos h, decide_eq_true (show 97 ≤ x from h), Bool.true_and]
 ·rw [if_neg h, decide_eq_false (show ¬ 97 ≤ x from h), Bool.false_and]
theorem ndigb (x : Int) : spec_l3Digit.f x = some (digb x) := by
 unfold spec_l3Digit.f digb
 by_cases h : x ≥ 48
 ·rw [if_pos h, decide_eq_true (show 48 ≤ x from h), Bool.true_and]
 ·rw [if_neg h, decide_eq_false (show ¬ 48 ≤ x from h), Bool.false_and]
theorem s_nv_l (s : ByteArray) (hs : s.size ≤ 1048576) : ∀ (l : List Int) (n i : Nat), (bytesOf s).drop i = l → i ≤ s.size → n ≤ 12 →
  Ev (fun k => spec_NameValid.l0 k s (n : Int) (i : Int)) (nv n l && (s.toList != ([116, 114, 117, 101] : List UInt8)) && (s.toList != ([102, 97, 108, 115, 101] : List UInt8))) := by
 intro l
 induction l with
 | nil =>
  intro n i hl hi hn
  have hz : s.size = i := by
   have := List.drop_eq_nil_iff.1 hl
   rw [bytesOf_length] at this; omega
  refine Ev.step (fun k => by rw [spec_NameValid.l0]) (ev_const fun k => ?_)
  rw [if_neg (by omega), nv]
  by_cases h0 : 0 < n
  ·rw [if_pos (show (n : Int) > 0 by omega), end_nv, decide_eq_true h0, Bool.true_and]
  ·rw [if_neg (show ¬ (n : Int) > 0 by omega), decide_eq_false h0]; rfl
 | cons x l ih =>
  intro n i hl hi hn
  have hlt : i < s.size := by
   rcases Nat.lt_or_ge i s.size with h | h
   ·exact h
   ·rw [List.drop_eq_nil_iff.2 (by rw [bytesOf_length]; exact h)] at hl; cases hl
  have hd := drop_cons (bytesOf s) i (by rw [bytesOf_length]; exact hlt)
  rw [hd] at hl
  obtain ⟨hx, hl'⟩ := List.cons.inj hl
  have hb := bt_nat s i
  rw [hx] at hb
  have hw : wrap64 ((i : Int) + 1) = ((i + 1 : Nat) : Int) := w64s (by omega)
  have j2t : Ev (fun k => spec_NameValid.j2 k s (n : Int) (i : Int) true) false := by
   refine Ev.step (fun k => by rw [spec_NameValid.j2]) ?_
   simp only [if_true]; exact Ev.now _
  have j2f : Ev (fun k => spec_NameValid.j2 k s (n : Int) (i : Int) false) (decide (n + 1 ≤ 12) && nv (n + 1) l && (s.toList != ([116, 114, 117, 101] : List UInt8)) && (s.toList != ([102, 97, 108, 115, 101] : List UInt8))) := by
   refine Ev.step (fun k => by rw [spec_NameValid.j2]) ?_
   simp only [Bool.false_eq_true, if_false, w64s (show n + 1 < 9223372036854775808 by omega), hw]
   by_cases h12 : ((n + 1 : Nat) : Int) > 12
   ·simp only [if_pos h12, decide_eq_false (show ¬ n + 1 ≤ 12 by omega), Bool.false_and]; exact Ev.now _
   ·simp only [if_neg h12, decide_eq_true (show n + 1 ≤ 12 by omega), Bool.true_and]
    exact ih (n + 1) (i + 1) hl' (by omega) (by omega)
  have j1f : ¬ (x = 46 ∧ 0 < n) → Ev (fun k => spec_NameValid.j1 k s (n : Int) (i : Int) false) (nv n (x :: l) && (s.toList != ([116, 114, 117, 101] : List UInt8)) && (s.toList != ([102, 97, 108, 115, 101] : List UInt8))) := by
   intro hno
   rw [nv, if_neg hno]
   refine Ev.step (fun k => by rw [spec_NameValid.j1]) ?_
   simp only [Bool.false_eq_true, if_false, hb, if_pos (show (0 : Int) ≤ (i : Int) by omega), if_pos (show (i : Int) < (s.size : Int) by omega), nletb, ndigb, Option.bind_some]
   unfold okat
   cases hlet : letb x
   ·simp only [Bool.false_eq_true, if_false, Bool.false_or]
    by_cases h0 : n = 0
    ·simp only [if_pos (show (n : Int) = 0 by omega), h0, ne_eq, not_true, decide_false, Bool.false_and]
     rw [h0] at j2t
     exact j2t
    ·simp only [if_neg (show ¬ (n : Int) = 0 by omega), h0, ne_eq, not_false_iff, decide_true, Bool.true_and]
     cases hdig : digb x
     ·simp only [Bool.false_eq_true, if_false, Bool.false_or]
      by_cases h95 : x = 95
      ·simp only [bne_eq_false_iff_eq.mpr h95, beq_iff_eq.mpr h95, Bool.true_and]; exact j2f
      ·simp only [bne_iff_ne.mpr h95, beq_eq_false_iff_ne.mpr h95, Bool.false_and]; exact j2t
     ·simp only [if_true, Bool.true_or, Bool.true_and]; exact j2f
   ·simp only [if_true, Bool.true_or, Bool.true_and]; exact j2f
  refine Ev.step (fun k => by rw [spec_NameValid.l0]) ?_
  simp only [hb, if_pos (show (i : Int) < (s.size : Int) by omega), if_pos (show (0 : Int) ≤ (i : Int) by omega)]
  by_cases h46 : x = 46
  ·simp only [if_pos h46]
   by_cases h0 : 0 < n
   ·simp only [decide_eq_true (show (n : Int) > 0 by omega)]
    rw [nv, if_pos ⟨h46, h0⟩]
    refine Ev.step (fun k => by rw [spec_NameValid.j1]) ?_
    simp only [if_true, hw]
    exact ih 0 (i + 1) hl' (by omega) (by omega)
   ·simp only [decide_eq_false (show ¬ (n : Int) > 0 by omega)]
    exact j1f (fun e => h0 e.2)
  ·simp only [if_neg h46]
   exact j1f (fun e => h46 e.1)
theorem spec_nv (s : ByteArray) (hs : s.size ≤ 1048576) : Ev (fun k => spec_NameValid.f k s) (nameV s) := s_nv_l s hs _ 0 0 rfl (by omega) (by omega)

theorem contains_cons (x b : Int) (l : List Int) : (x :: l).contains b = (x == b || l.contains b) := by
 rw [List.contains_cons, Bool.beq_comm]
theorem has_l (s : ByteArray) (hs : s.size ≤ 140737488351232) (b : Int) : ∀ (l : List Int) (i : Nat), (bytesOf s).drop i = l → i ≤ s.size →
  Ev (fun k => spec_l1Has.l0 k s b (i : Int)) (l.contains b) := by
 intro l
 induction l with
 | nil =>
  intro i hl hi
  have hn : s.size = i := by
   have := List.drop_eq_nil_iff.1 hl
   rw [bytesOf_length] at this; omega
  refine Ev.step (fun k => by rw [spec_l1Has.l0]) (ev_const fun k => ?_)
  rw [if_neg (by omega)]; rfl
 | cons x l ih =>
  intro i hl hi
  have hlt : i < s.size := by
   rcases Nat.lt_or_ge i s.size with h | h
   ·exact h
   ·rw [List.drop_eq_nil_iff.2 (by rw [bytesOf_length]; exact h)] at hl; cases hl
  have hd := drop_cons (bytesOf s) i (by rw [bytesOf_length]; exact hlt)
  rw [hd] at hl
  obtain ⟨hx, hl'⟩ := List.cons.inj hl
  have hb := bt_nat s i
  rw [hx] at hb
  have h1 := ih (i + 1) hl' (by omega)
  refine Ev.step (fun k => by rw [spec_l1Has.l0]) ?_
  simp only [hb, w64s (show i + 1 < 9223372036854775808 by omega), show (i : Int) < (s.size : Int) by omega, show (0 : Int) ≤ (i : Int) by omega, if_true]
  rw [contains_cons]
  by_cases hxb : x = b
  ·subst hxb
   simp only [if_true, beq_self_eq_true, Bool.true_or]; exact Ev.now _
  ·simp only [if_neg hxb, beq_eq_false_iff_ne.mpr hxb, Bool.false_or]; exact h1
theorem spec_has (s : ByteArray) (hs : s.size ≤ 140737488351232) (b : Int) : Ev (fun k => spec_l1Has.f k s b) ((bytesOf s).contains b) := has_l s hs b (bytesOf s) 0 rfl (by omega)

theorem ev_ite {α : Type} {c : Prop} [Decidable c] {f g : Nat → Option α} {a b : α} (hf : c → Ev f a) (hg : ¬ c → Ev g b) : Ev (fun k => if c then f k else g k) (if c then a else b) := by
 by_cases h : c
 ·simp only [if_pos h]; exact hf h
 ·simp only [if_neg h]; exact hg h
def rk1 (L : List UInt8) (b : Bool) : Int := if b = true then 5 else if L = ([42] : List UInt8) then 6 else if L = ([47] : List UInt8) then 6 else if L = ([37] : List UInt8) then 6 else 0
def rk0 (L : List UInt8) (b : Bool) : Int := if b = true then 4 else if L = ([43] : List UInt8) then rk1 L (L == ([43] : List UInt8)) else rk1 L (L == ([45] : List UInt8))
def rk (L : List UInt8) : Int := if L = ([124, 124] : List UInt8) then 2 else if L = ([38, 38] : List UInt8) then 3 else if L = ([61, 61] : List UInt8) then rk0 L (L == ([61, 61] : List UInt8)) else if L = ([33, 61] : List UInt8) then rk0 L (L == ([33, 61] : List UInt8))
 else if L = ([60] : List UInt8) then rk0 L (L == ([60] : List UInt8)) else if L = ([60, 61] : List UInt8) then rk0 L (L == ([60, 61] : List UInt8)) else if L = ([62] : List UInt8) then rk0 L (L == ([62] : List UInt8)) else rk0 L (L == ([62, 61] : List UInt8))
theorem impl_rankOf_rank (s : ByteArray) : Ev (fun k => impl_rankOf.f k s) (rk s.toList) := by
 have J1 : ∀ b : Bool, Ev (fun k => impl_rankOf.j1 k s b) (rk1 s.toList b) := by
  intro b
  refine Ev.step (fun k => by rw [impl_rankOf.j1]) ?_
  unfold rk1
  exact ev_ite (fun _ => Ev.now _) (fun _ => ev_ite (fun _ => Ev.now _) (fun _ => ev_ite (fun _ => Ev.now _) (fun _ => ev_ite (fun _ => Ev.now _) (fun _ => Ev.now _))))
 have J0 : ∀ b : Bool, Ev (fun k => impl_rankOf.j0 k s b) (rk0 s.toList b) := by
  intro b
  refine Ev.step (fun k => by rw [impl_rankOf.j0]) ?_
  unfold rk0
  exact ev_ite (fun _ => Ev.now _) (fun _ => ev_ite (fun _ => J1 _) (fun _ => J1 _))
 unfold impl_rankOf.f rk
 exact ev_ite (fun _ => Ev.now _) (fun _ => ev_ite (fun _ => Ev.now _) (fun _ => ev_ite (fun _ => J0 _) (fun _ => ev_ite (fun _ => J0 _) (fun _ => ev_ite (fun _ => J0 _) (fun _ => ev_ite (fun _ => J0 _) (fun _ => ev_ite (fun _ => J0 _) (fun _ => J0 _)))))))
theorem spec_l5Binary_rank (s : ByteArray) : Ev (fun k => spec_l5Binary.f k s) (rk s.toList) := by
 have J1 : ∀ b : Bool, Ev (fun k => spec_l5Binary.j1 k s b) (rk1 s.toList b) := by
  intro b
  refine Ev.step (fun k => by rw [spec_l5Binary.j1]) ?_
  unfold rk1
  exact ev_ite (fun _ => Ev.now _) (fun _ => ev_ite (fun _ => Ev.now _) (fun _ => ev_ite (fun _ => Ev.now _) (fun _ => ev_ite (fun _ => Ev.now _) (fun _ => Ev.now _))))
 have J0 : ∀ b : Bool, Ev (fun k => spec_l5Binary.j0 k s b) (rk0 s.toList b) := by
  intro b
  refine Ev.step (fun k => by rw [spec_l5Binary.j0]) ?_
  unfold rk0
  exact ev_ite (fun _ => Ev.now _) (fun _ => ev_ite (fun _ => J1 _) (fun _ => J1 _))
 unfold spec_l5Binary.f rk
 exact ev_ite (fun _ => Ev.now _) (fun _ => ev_ite (fun _ => Ev.now _) (fun _ => ev_ite (fun _ => J0 _) (fun _ => ev_ite (fun _ => J0 _) (fun _ => ev_ite (fun _ => J0 _) (fun _ => ev_ite (fun _ => J0 _) (fun _ => ev_ite (fun _ => J0 _) (fun _ => J0 _)))))))
/-- a valid cell; where lim holds a name has at most sixty bytes. -/
def cv (lim : Bool) (a : Int) (w : ByteArray) (m : Int) : Bool :=
 if a = 1 then (if (rdI (bytesOf w)).2.2 = true then (if (rdI (bytesOf w)).1 ≥ 0 then (if (1000000 : Int) % (rdI (bytesOf w)).2.1 = 0 then (m == 0) else false) else false) else false)
 else if a = 2 then (if tv (bytesOf w) = true then (if (w.size : Int) ≤ 60 then (m == 0) else false) else false)
 else if a = 3 then (if w.toList = ([116, 114, 117, 101] : List UInt8) then (m == 0) else if w.toList = ([102, 97, 108, 115, 101] : List UInt8) then (m == 0) else false)
 else if a = 4 then (if nameV w = true then (if lim = true ∧ ¬ (w.size : Int) ≤ 60 then false else (m == 0)) else false)
 else if a = 5 then (if w.toList = ([] : List UInt8) then decide (0 ≤ m ∧ m ≤ 8) else false)
 else if a = 6 then (if nameV w = true then (if (bytesOf w).contains 46 = true then false else decide (0 ≤ m ∧ m ≤ 8)) else false)
 else if a = 7 then (if w.toList = ([33] : List UInt8) then (m == 1) else if w.toList = ([45] : List UInt8) then (m == 1) else false)
 else if a = 8 then (if rk w.toList > 0 then (m == 2) else false)
 else if a = 9 then (if w.toList = ([] : List UInt8) then (m == 3) else false)
 else false
theorem contains46 (s : ByteArray) : strings_Contains.f s (⟨#[46]⟩ : ByteArray) = some ((bytesOf s).contains 46) := by
 unfold strings_Contains.f
 have h1 : (⟨#[46]⟩ : ByteArray).size = 1 := rfl
 rw [if_pos h1]
 congr 1
 rw [Bool.eq_iff_iff, decide_eq_true_iff]
 show 0 ≤ Lib.indexByte s.data.toList 46 ↔ _
 rw [index_mem, mem_bytes]; rfl
theorem cv_impl (a : Int) (w : ByteArray) (m : Int) (hw : w.size ≤ 1000) : Ev (fun k => impl_CellValid.f k a w m) (cv false a w m) := by
 unfold impl_CellValid.f cv
 refine ev_ite (fun _ => ?_) (fun _ => ev_ite (fun _ => ?_) (fun _ => ev_ite (fun _ => ?_) (fun _ => ev_ite (fun _ => ?_) (fun _ => ev_ite (fun _ => ?_) (fun _ => ev_ite (fun _ => ?_) (fun _ => ev_ite (fun _ => ?_) (fun _ => ev_ite (fun _ => ?_) (fun _ => ev_ite (fun _ => ?_) (fun _ => Ev.now _)))))))))
 ·have hr : Ev (fun k => impl_ReadFraction.f k w) (rdI (bytesOf w)) := impl_rf w (by omega)
  refine ev_bind hr ?_
  rcases rdI_cases (bytesOf w) with h | ⟨x, y, hF, _, h⟩
  ·rw [h]; simp only [noF, Bool.false_eq_true, if_false]; exact Ev.now _
  ·rw [h]
   have hy := hF.2.2.1
   simp only [if_true, if_neg (show ¬ y = 0 by omega)]
   exact ev_ite (fun _ => ev_ite (fun _ => Ev.now _) (fun _ => Ev.now _)) (fun _ => Ev.now _)
 ·refine ev_bind (impl_tv w (by omega)) ?_
  exact ev_ite (fun _ => ev_ite (fun _ => Ev.now _) (fun _ => Ev.now _)) (fun _ => Ev.now _)
 ·exact ev_ite (fun _ => Ev.now _) (fun _ => ev_ite (fun _ => Ev.now _) (fun _ => Ev.now _))
 ·refine ev_bind (impl_nv w (by omega)) ?_
  refine ev_ite (fun _ => ?_) (fun _ => Ev.now _)
  rw [if_neg (show ¬ (false = true ∧ ¬ (w.size : Int) ≤ 60) from fun h => by cases h.1)]; exact Ev.now _
 ·refine ev_ite (fun _ => ?_) (fun _ => Ev.now _)
  simp only [in_dec, Option.bind_some]; exact Ev.now _
 ·have hp : Ev (fun k => impl_plainName.f k w) (if nameV w = true then !((bytesOf w).contains 46) else false) := by
   unfold impl_plainName.f
   refine ev_bind (impl_nv w (by omega)) ?_
   refine ev_ite (fun _ => ?_) (fun _ => Ev.now _)
   simp only [contains46, Option.bind_some]; exact Ev.now _
  refine ev_bind hp ?_
  simp only [in_dec, Option.bind_some]
  cases nameV w with
  | false => simp only [Bool.false_eq_true, if_false]; exact Ev.now _
  | true =>
   cases (bytesOf w).contains 46 with
   | true => simp only [if_true, Bool.not_true, Bool.false_eq_true, if_false]; exact Ev.now _
   | false => simp only [if_true, Bool.not_false, Bool.false_eq_true, if_false]; exact Ev.now _
 ·exact ev_ite (fun _ => Ev.now _) (fun _ => ev_ite (fun _ => Ev.now _) (fun _ => Ev.now _))
 ·refine ev_bind (impl_rankOf_rank w) ?_
  exact ev_ite (fun _ => Ev.now _) (fun _ => Ev.now _)
 ·exact ev_ite (fun _ => Ev.now _) (fun _ => Ev.now _)
theorem cv_spec (a : Int) (w : ByteArray) (m : Int) (hw : w.size ≤ 1000) : Ev (fun k => spec_CellValid.f k a w m) (cv true a w m) := by
 unfold spec_CellValid.f cv
 refine ev_ite (fun _ => ?_) (fun _ => ev_ite (fun _ => ?_) (fun _ => ev_ite (fun _ => ?_) (fun _ => ev_ite (fun _ => ?_) (fun _ => ev_ite (fun _ => ?_) (fun _ => ev_ite (fun _ => ?_) (fun _ => ev_ite (fun _ => ?_) (fun _ => ev_ite (fun _ => ?_) (fun _ => ev_ite (fun _ => ?_) (fun _ => Ev.now _)))))))))
 ·have hr : Ev (fun k => spec_ReadFraction.f k w) (rdI (bytesOf w)) := by rw [rd_same]; exact spec_rf w (by omega)
  refine ev_bind hr ?_
  rcases rdI_cases (bytesOf w) with h | ⟨x, y, hF, _, h⟩
  ·rw [h]; simp only [noF, Bool.false_eq_true, if_false]; exact Ev.now _
  ·rw [h]
   have hy := hF.2.2.1
   simp only [if_true, if_neg (show ¬ y = 0 by omega)]
   exact ev_ite (fun _ => ev_ite (fun _ => Ev.now _) (fun _ => Ev.now _)) (fun _ => Ev.now _)
 ·refine ev_bind (spec_tv w (by omega)) ?_
  exact ev_ite (fun _ => ev_ite (fun _ => Ev.now _) (fun _ => Ev.now _)) (fun _ => Ev.now _)
 ·exact ev_ite (fun _ => Ev.now _) (fun _ => ev_ite (fun _ => Ev.now _) (fun _ => Ev.now _))
 ·refine ev_bind (spec_nv w (by omega)) ?_
  refine ev_ite (fun _ => ?_) (fun _ => Ev.now _)
  by_cases h : (w.size : Int) ≤ 60
  ·simp only [if_pos h]
   rw [if_neg (fun e => e.2 h)]; exact Ev.now _
  ·simp only [if_neg h]
   rw [if_pos (by first | exact ⟨rfl, h⟩ | exact ⟨trivial, h⟩)]; exact Ev.now _
 ·refine ev_ite (fun _ => ?_) (fun _ => Ev.now _)
  simp only [in_spec, Option.bind_some]; exact Ev.now _
 ·refine ev_bind (spec_nv w (by omega)) ?_
  refine ev_ite (fun _ => ?_) (fun _ => Ev.now _)
  refine ev_bind (spec_has w (by omega) 46) ?_
  refine ev_ite (fun _ => Ev.now _) (fun _ => ?_)
  simp only [in_spec, Option.bind_some]; exact Ev.now _
 ·exact ev_ite (fun _ => Ev.now _) (fun _ => ev_ite (fun _ => Ev.now _) (fun _ => Ev.now _))
 ·refine ev_bind (spec_l5Binary_rank w) ?_
  exact ev_ite (fun _ => Ev.now _) (fun _ => Ev.now _)
 ·exact ev_ite (fun _ => Ev.now _) (fun _ => Ev.now _)
theorem cv_same {w : ByteArray} (h : w.size ≤ 60 ∨ nameV w = false) (a m : Int) : cv true a w m = cv false a w m := by
 have e4 : (if nameV w = true then (if true = true ∧ ¬ (w.size : Int) ≤ 60 then false else (m == 0)) else false) = (if nameV w = true then (if false = true ∧ ¬ (w.size : Int) ≤ 60 then false else (m == 0)) else false) := by
  rcases h with h | h
  ·rw [if_neg (show ¬ (true = true ∧ ¬ (w.size : Int) ≤ 60) from fun e => e.2 (by omega)), if_neg (show ¬ (false = true ∧ ¬ (w.size : Int) ≤ 60) from fun e => by cases e.1)]
  ·rw [h]; rfl
 unfold cv
 rw [e4]
/-- a valid cell has at most eight parts. -/
theorem cv_many {lim : Bool} {a m : Int} {w : ByteArray} (h : cv lim a w m = true) : 0 ≤ m ∧ m ≤ 8 := by
 have e : ∀ c : Int, (m == c) = true → 0 ≤ c → c ≤ 8 → 0 ≤ m ∧ m ≤ 8 := fun c h h0 h8 => by rw [eq_of_beq h]; exact ⟨h0, h8⟩
 unfold cv at h
 repeat' split at h
 all_goals first
  | exact e _ h (by decide) (by decide)
  | exact of_decide_eq_true h
  | cases h

def ms (L : List S35) : List Nat := L.map fun c => c.f2.toNat
theorem ms_len (L : List S35) : (ms L).length = L.length := List.length_map _
def MOk (L : List S35) : Prop := ∀ c ∈ L, 0 ≤ c.f2 ∧ c.f2 ≤ 8
theorem ms_drop (L : List S35) (i : Nat) : ms (L.drop i) = (ms L).drop i := by unfold ms; rw [List.map_drop]
theorem ms_take (L : List S35) (i : Nat) : ms (L.take i) = (ms L).take i := by unfold ms; rw [List.map_take]
theorem rdC_nat (L : List S35) (i : Nat) (h : i < L.length) : rd_T35 L (i : Int) = L[i] := by
 unfold rd_T35
 rw [Int.toNat_natCast, List.getD_eq_getElem?_getD, List.getElem?_eq_getElem h]; rfl
theorem many_at {L : List S35} (hm : MOk L) (i : Nat) (h : i < L.length) : ∃ m : Nat, (rd_T35 L (i : Int)).f2 = (m : Int) ∧ m ≤ 8 ∧ (ms L).drop i = m :: (ms L).drop (i + 1) := by
 have hb := hm L[i] (List.getElem_mem h)
 rw [rdC_nat L i h]
 refine ⟨L[i].f2.toNat, by omega, by omega, ?_⟩
 have hi : i < (ms L).length := by rw [ms_len]; exact h
 rw [List.drop_eq_getElem_cons hi]
 congr 1
 simp only [ms, List.getElem_map]
theorem mL_depth {e : List Nat → Option (List Nat × Nat)} (he : ∀ l r d, e l = some (r, d) → d ≤ l.length ∧ r.length ≤ l.length) : ∀ (m : Nat) (l r : List Nat) (d : Nat), mL e m l = some (r, d) → d ≤ l.length
 | 0, l, r, d, h => by rw [mL] at h; simp only [Option.some.injEq, Prod.mk.injEq] at h; omega
 | m + 1, l, r, d, h => by
  rw [mL] at h
  obtain ⟨⟨r1, d1⟩, h1, h⟩ := Option.bind_eq_some_iff.1 h
  obtain ⟨⟨r2, d2⟩, h2, h⟩ := Option.bind_eq_some_iff.1 h
  simp only at h2
  simp only [Option.some.injEq, Prod.mk.injEq] at h
  have q1 := he _ _ _ h1
  have q2 := mL_depth he m _ _ _ h2
  rw [← h.2]
  omega
theorem mE_depth : ∀ (f : Nat) (l r : List Nat) (d : Nat), mE f l = some (r, d) → d ≤ l.length ∧ r.length ≤ l.length
 | 0, l, r, d, h => by cases h
 | f + 1, [], r, d, h => by cases h
 | f + 1, m :: l, r, d, h => by
  have hl := mE_len _ _ _ _ h
  rw [mE] at h
  obtain ⟨⟨r1, d1⟩, h1, h⟩ := Option.bind_eq_some_iff.1 h
  simp only [Option.some.injEq, Prod.mk.injEq] at h
  have := mL_depth (mE_depth f) m _ _ _ h1
  rw [List.length_cons] at hl ⊢
  omega
theorem me_depth {l r : List Nat} {d : Nat} (h : me l = some (r, d)) : d ≤ l.length := (mE_depth _ _ _ _ h).1
theorem suf_drop {l r : List Nat} (h : ∃ t, l = t ++ r) (n : Nat) (M : List Nat) (hM : M.drop n = l) : M.drop (M.length - r.length) = r := by
 obtain ⟨t, rfl⟩ := h
 have hl : M.length - n = t.length + r.length := by rw [← List.length_drop, hM, List.length_append]
 by_cases hn : n ≤ M.length
 ·have : M.length - r.length = n + t.length := by omega
  rw [this, ← List.drop_drop, hM]
  simp
 ·have hr : r = [] := by
   have : r.length = 0 := by omega
   exact List.length_eq_zero_iff.1 this
  subst hr
  simp
/-- what measure answers. -/
def mres (len : Nat) (x : Option (List Nat × Nat)) : Int × Int := match x with
 | none => (-1, 0)
 | some (r, d) => (((len - r.length : Nat) : Int), (d : Int))
def lres (len deep : Nat) (x : Option (List Nat × Nat)) : Int × Int := match x with
 | none => (-1, 0)
 | some (r, d) => (((len - r.length : Nat) : Int), ((max deep d + 1 : Nat) : Int))
theorem mx_nat (a b : Nat) : mx (a : Int) (b : Int) = ((max a b : Nat) : Int) := by unfold mx; split <;> omega
theorem measure_ev (L : List S35) (hm : MOk L) (hl : L.length ≤ 1000) : ∀ (n at_ : Nat), L.length - at_ ≤ n → at_ ≤ L.length →
  Ev (fun k => impl_measure.f k L (at_ : Int)) (mres L.length (me ((ms L).drop at_))) := by
 intro n
 induction n with
 | zero =>
  intro at_ hn ha
  refine Ev.step (fun k => by rw [impl_measure.f]) ?_
  simp only [if_pos (show (at_ : Int) ≥ (L.length : Int) by omega)]
  rw [List.drop_eq_nil_of_le (by rw [ms_len]; omega), me_nil]
  exact Ev.now _
 | succ n ih =>
  intro at_ hn ha
  refine Ev.step (fun k => by rw [impl_measure.f]) ?_
  by_cases hlt : at_ < L.length
  ·obtain ⟨m, hm1, hm2, hm3⟩ := many_at hm at_ hlt
   simp only [if_neg (show ¬ (at_ : Int) ≥ (L.length : Int) by omega), w64s (show at_ + 1 < 9223372036854775808 by omega)]
   have loop : ∀ (j i e deep : Nat), i + j = m → at_ < e → e ≤ L.length → deep ≤ 1000 →
     Ev (fun k => impl_measure.l0 k L (at_ : Int) (e : Int) (deep : Int) (i : Int)) (lres L.length deep (mL me j ((ms L).drop e))) := by
    intro j
    induction j with
    | zero =>
     intro i e deep hi he he' hd
     refine Ev.step (fun k => by rw [impl_measure.l0]) ?_
     simp only [hm1, if_pos (show (0 : Int) ≤ (at_ : Int) by omega), if_pos (show (at_ : Int) < (L.length : Int) by omega), if_neg (show ¬ (i : Int) < (m : Int) by omega), w64s (show deep + 1 < 9223372036854775808 by omega), mL, lres]
     rw [List.length_drop, ms_len, show L.length - (L.length - e) = e by omega, Nat.max_zero]
     exact Ev.now _
    | succ j ihj =>
     intro i e deep hi he he' hd
     refine Ev.step (fun k => by rw [impl_measure.l0]) ?_
     simp only [hm1, if_pos (show (0 : Int) ≤ (at_ : Int) by omega), if_pos (show (at_ : Int) < (L.length : Int) by omega), if_pos (show (i : Int) < (m : Int) by omega)]
     refine ev_bind (ih e (by omega) he') ?_
     cases hme : me ((ms L).drop e) with
     | none =>
      simp only [mres, mL, hme, Option.bind_none, lres, if_pos (show (-1 : Int) < 0 by omega)]
      exact Ev.now _
     | some x =>
      obtain ⟨r, d⟩ := x
      have h1 := me_len hme
      have h2 := me_depth hme
      rw [List.length_drop, ms_len] at h1 h2
      have h3 := suf_drop (me_suf hme) e (ms L) rfl
      rw [ms_len] at h3
      have := ihj (i + 1) (L.length - r.length) (max deep d) (by omega) (by omega) (by omega) (by omega)
      rw [h3] at this
      simp only [mres, mL, hme, Option.bind_some, if_neg (show ¬ ((L.length - r.length : Nat) : Int) < 0 by omega), mx_nat, w64s (show i + 1 < 9223372036854775808 by omega)]
      cases hml : mL me j r with
      | none => rw [hml] at this; exact this
      | some y =>
       rw [hml] at this
       simp only [lres, Option.bind_some] at this ⊢
       rw [← Nat.max_assoc]
       exact this
   have := loop m 0 (at_ + 1) 0 (by omega) (by omega) hlt (by omega)
   rw [hm3, me_cons]
   cases hml : mL me m ((ms L).drop (at_ + 1)) with
   | none => rw [hml] at this; exact this
   | some y =>
    rw [hml] at this
    simp only [lres, mres, Option.bind_some, Nat.zero_max] at this ⊢
    exact this
  ·simp only [if_pos (show (at_ : Int) ≥ (L.length : Int) by omega)]
   rw [List.drop_eq_nil_of_le (by rw [ms_len]; omega), me_nil]
   exact Ev.now _
def eres (len : Nat) (x : Option (List Nat)) : Int := match x with
 | none => -1
 | some r => ((len - r.length : Nat) : Int)
theorem end_l (L : List S35) (hm : MOk L) (hl : L.length ≤ 1000) : ∀ (n at_ left : Nat), L.length - at_ ≤ n → at_ ≤ L.length → left + 8 * n ≤ 100000 →
  Ev (fun k => spec_l5End.l0 k L (at_ : Int) (left : Int)) (eres L.length (scan ((ms L).drop at_) left)) := by
 intro n
 induction n with
 | zero =>
  intro at_ left hn ha hb
  refine Ev.step (fun k => by rw [spec_l5End.l0]) ?_
  rw [List.drop_eq_nil_of_le (by rw [ms_len]; omega)]
  simp only [if_neg (show ¬ (at_ : Int) < (L.length : Int) by omega)]
  cases left with
  | zero =>
   simp only [if_neg (show ¬ ((0 : Nat) : Int) > 0 by omega), scan, eres, List.length_nil]
   rw [show L.length - 0 = at_ by omega]
   exact Ev.now _
  | succ left => simp only [if_pos (show ((left + 1 : Nat) : Int) > 0 by omega), scan, eres]; exact Ev.now _
 | succ n ih =>
  intro at_ left hn ha hb
  refine Ev.step (fun k => by rw [spec_l5End.l0]) ?_
  by_cases hlt : at_ < L.length
  ·obtain ⟨m, hm1, hm2, hm3⟩ := many_at hm at_ hlt
   simp only [if_pos (show (at_ : Int) < (L.length : Int) by omega)]
   cases left with
   | zero =>
    simp only [if_neg (show ¬ ((0 : Nat) : Int) > 0 by omega), scan_zero, eres, List.length_drop, ms_len]
    rw [show L.length - (L.length - at_) = at_ by omega]
    exact Ev.now _
   | succ left =>
    have e1 : wrap64 (((left + 1 : Nat) : Int) - 1) = (left : Int) := by rw [w64 (by omega) (by omega)]; omega
    have e2 : mx 0 ((m : Nat) : Int) = (m : Int) := by unfold mx; split <;> omega
    have e3 : wrap64 ((left : Int) + (m : Int)) = ((left + m : Nat) : Int) := by rw [w64 (by omega) (by omega)]; rfl
    simp only [hm1, if_pos (show ((left + 1 : Nat) : Int) > 0 by omega), if_pos (show (0 : Int) ≤ (at_ : Int) by omega), w64s (show at_ + 1 < 9223372036854775808 by omega), e1, e2, e3]
    rw [hm3, scan_cons]
    exact ih (at_ + 1) (left + m) (by omega) hlt (by omega)
  ·rw [List.drop_eq_nil_of_le (by rw [ms_len]; omega)]
   simp only [if_neg (show ¬ (at_ : Int) < (L.length : Int) by omega)]
   cases left with
   | zero =>
    simp only [if_neg (show ¬ ((0 : Nat) : Int) > 0 by omega), scan, eres, List.length_nil]
    rw [show L.length - 0 = at_ by omega]
    exact Ev.now _
   | succ left => simp only [if_pos (show ((left + 1 : Nat) : Int) > 0 by omega), scan, eres]; exact Ev.now _
theorem end_ev (L : List S35) (hm : MOk L) (hl : L.length ≤ 1000) (at_ : Nat) (ha : at_ ≤ L.length) :
  Ev (fun k => spec_l5End.f k L (at_ : Int)) (mres L.length (me ((ms L).drop at_))).1 := by
 have := end_l L hm hl L.length at_ 1 (by omega) ha (by omega)
 rw [← me_end] at this
 unfold spec_l5End.f
 cases h : me ((ms L).drop at_) with
 | none => rw [h] at this; exact this
 | some x => rw [h] at this; exact this
/-- the parts, as what stands from each on. -/
def rest (l : List Nat) : List Nat := match me l with
 | none => []
 | some (r, _) => r
def kidsL : Nat → List Nat → List (List Nat)
 | 0, _ => []
 | j + 1, l => l :: kidsL j (rest l)
def pos (len : Nat) (l : List Nat) : Int := ((len - l.length : Nat) : Int)
theorem mL_succ {j : Nat} {l r : List Nat} {d : Nat} (h : mL me (j + 1) l = some (r, d)) : ∃ r1 d1 d2, me l = some (r1, d1) ∧ mL me j r1 = some (r, d2) ∧ d = max d1 d2 ∧ rest l = r1 := by
 rw [mL] at h
 obtain ⟨⟨r1, d1⟩, h1, h⟩ := Option.bind_eq_some_iff.1 h
 obtain ⟨⟨r2, d2⟩, h2, h⟩ := Option.bind_eq_some_iff.1 h
 simp only at h2
 simp only [Option.some.injEq, Prod.mk.injEq] at h
 obtain ⟨rfl, rfl⟩ := h
 exact ⟨r1, d1, d2, h1, h2, rfl, by unfold rest; rw [h1]⟩
theorem kidsL_len : ∀ (j : Nat) (l : List Nat), (kidsL j l).length = j
 | 0, _ => rfl
 | j + 1, l => by rw [kidsL, List.length_cons, kidsL_len j]

theorem kidsS_l (L : List S35) (hm : MOk L) (hl : L.length ≤ 1000) (at_ m : Nat) (hat : at_ < L.length) (hf : (rd_T35 L (at_ : Int)).f2 = (m : Int)) (hm8 : m ≤ 8) : ∀ (j i e : Nat) (acc : List Int) (r : List Nat) (d : Nat), i + j = m → e ≤ L.length → acc.length + j ≤ 100 → mL me j ((ms L).drop e) = some (r, d) → ∀ z : Int, (j ≥ 1 → z = (e : Int)) →
  Ev (fun k => spec_l5Kids.l0 k L (at_ : Int) acc z (i : Int)) (acc ++ (kidsL j ((ms L).drop e)).map (pos L.length)) := by
 intro j
 induction j with
 | zero =>
  intro i e acc r d hi he hacc h z hz
  refine Ev.step (fun k => by rw [spec_l5Kids.l0]) ?_
  simp only [hf, if_pos (show (0 : Int) ≤ (at_ : Int) by omega), if_pos (show (at_ : Int) < (L.length : Int) by omega), if_neg (show ¬ (i : Int) < (m : Int) by omega), kidsL, List.map_nil, List.append_nil]
  exact Ev.now _
 | succ j ih =>
  intro i e acc r d hi he hacc h z hz
  obtain ⟨r1, d1, d2, h1, h2, _, h4⟩ := mL_succ h
  obtain rfl := hz (by omega)
  refine Ev.step (fun k => by rw [spec_l5Kids.l0]) ?_
  have hen := end_ev L hm hl e he
  rw [h1] at hen
  have hlt := me_len h1
  rw [List.length_drop, ms_len] at hlt
  have h3 := suf_drop (me_suf h1) e (ms L) rfl
  rw [ms_len] at h3
  simp only [hf, if_pos (show (0 : Int) ≤ (at_ : Int) by omega), if_pos (show (at_ : Int) < (L.length : Int) by omega), if_pos (show (i : Int) < (m : Int) by omega), if_pos (show acc.length < 17592186044416 by omega), w64s (show i + 1 < 9223372036854775808 by omega)]
  refine ev_bind hen ?_
  have := ih (i + 1) (L.length - r1.length) (acc ++ [(e : Int)]) r d2 (by omega) (by omega) (by rw [List.length_append, List.length_singleton]; omega) (by rw [h3]; exact h2) ((L.length - r1.length : Nat) : Int) (fun _ => rfl)
  rw [h3] at this
  rw [kidsL, h4, List.map_cons, show pos L.length ((ms L).drop e) = (e : Int) by unfold pos; rw [List.length_drop, ms_len]; omega]
  rw [List.append_assoc, List.singleton_append] at this
  exact this
theorem kidsI_l (L : List S35) (hm : MOk L) (hl : L.length ≤ 1000) (at_ m : Nat) (hat : at_ < L.length) (hf : (rd_T35 L (at_ : Int)).f2 = (m : Int)) (hm8 : m ≤ 8) : ∀ (j i e : Nat) (acc : List Int) (r : List Nat) (d : Nat), i + j = m → e ≤ L.length → acc.length + j ≤ 100 → mL me j ((ms L).drop e) = some (r, d) → ∀ z : Int, (j ≥ 1 → z = (e : Int)) →
  Ev (fun k => impl_partsAt.l0 k L (at_ : Int) acc z (i : Int)) (acc ++ (kidsL j ((ms L).drop e)).map (pos L.length)) := by
 intro j
 induction j with
 | zero =>
  intro i e acc r d hi he hacc h z hz
  refine Ev.step (fun k => by rw [impl_partsAt.l0]) ?_
  unfold impl_copied_int.f
  simp only [hf, if_pos (show (0 : Int) ≤ (at_ : Int) by omega), if_pos (show (at_ : Int) < (L.length : Int) by omega), if_neg (show ¬ (i : Int) < (m : Int) by omega), if_pos (show acc.length ≤ 35184372088832 by omega), Option.bind_some, kidsL, List.map_nil, List.append_nil]
  exact Ev.now _
 | succ j ih =>
  intro i e acc r d hi he hacc h z hz
  obtain ⟨r1, d1, d2, h1, h2, _, h4⟩ := mL_succ h
  obtain rfl := hz (by omega)
  refine Ev.step (fun k => by rw [impl_partsAt.l0]) ?_
  have hen := measure_ev L hm hl _ e (Nat.le_refl _) he
  rw [h1] at hen
  have hlt := me_len h1
  rw [List.length_drop, ms_len] at hlt
  have h3 := suf_drop (me_suf h1) e (ms L) rfl
  rw [ms_len] at h3
  simp only [hf, if_pos (show (0 : Int) ≤ (at_ : Int) by omega), if_pos (show (at_ : Int) < (L.length : Int) by omega), if_pos (show (i : Int) < (m : Int) by omega), if_pos (show acc.length < 17592186044416 by omega), w64s (show i + 1 < 9223372036854775808 by omega)]
  refine ev_bind hen ?_
  have := ih (i + 1) (L.length - r1.length) (acc ++ [(e : Int)]) r d2 (by omega) (by omega) (by rw [List.length_append, List.length_singleton]; omega) (by rw [h3]; exact h2) ((L.length - r1.length : Nat) : Int) (fun _ => rfl)
  rw [h3] at this
  rw [kidsL, h4, List.map_cons, show pos L.length ((ms L).drop e) = (e : Int) by unfold pos; rw [List.length_drop, ms_len]; omega]
  rw [List.append_assoc, List.singleton_append] at this
  exact this
theorem rd_mid (pre : List Int) (x : Int) (post : List Int) : rd (pre ++ x :: post) (pre.length : Int) = x := by
 unfold Go.Proofs.YtifeiepociopoaaGreatDoorW.PrintWords.rd
 rw [Int.toNat_natCast, List.getD_eq_getElem?_getD]
 simp
theorem depth_ev (L : List S35) (hm : MOk L) (hl : L.length ≤ 1000) : ∀ (n at_ : Nat) (r : List Nat) (d : Nat), L.length - at_ ≤ n → at_ ≤ L.length → me ((ms L).drop at_) = some (r, d) →
  Ev (fun k => spec_l5Depth.f k L (at_ : Int)) (d : Int) := by
 intro n
 induction n with
 | zero =>
  intro at_ r d hn ha h
  rw [List.drop_eq_nil_of_le (by rw [ms_len]; omega), me_nil] at h
  cases h
 | succ n ih =>
  intro at_ r d hn ha h
  have hlt : at_ < L.length := by
   rcases Nat.lt_or_ge at_ L.length with h1 | h1
   ·exact h1
   ·rw [List.drop_eq_nil_of_le (by rw [ms_len]; omega), me_nil] at h; cases h
  obtain ⟨m, hm1, hm2, hm3⟩ := many_at hm at_ hlt
  rw [hm3, me_cons] at h
  obtain ⟨⟨r1, D⟩, h1, h⟩ := Option.bind_eq_some_iff.1 h
  simp only [Option.some.injEq, Prod.mk.injEq] at h
  obtain ⟨rfl, rfl⟩ := h
  refine Ev.step (fun k => by rw [spec_l5Depth.f]) ?_
  have hk : Ev (fun k => spec_l5Kids.f k L (at_ : Int)) ((kidsL m ((ms L).drop (at_ + 1))).map (pos L.length)) := by
   unfold spec_l5Kids.f
   rw [w64s (show at_ + 1 < 9223372036854775808 by omega)]
   have := kidsS_l L hm hl at_ m hlt hm1 hm2 m 0 (at_ + 1) [] r1 D (by omega) hlt (by simp; omega) h1 _ (fun _ => rfl)
   rw [List.nil_append] at this
   exact this
  refine ev_bind hk ?_
  have loop : ∀ (j e i acc : Nat) (pre : List Int) (rr : List Nat) (dd : Nat), pre.length = i → at_ < e → e ≤ L.length → i + j = m → acc ≤ 1000 → mL me j ((ms L).drop e) = some (rr, dd) →
    Ev (fun k => spec_l5Depth.l0 k L (acc : Int) (pre ++ (kidsL j ((ms L).drop e)).map (pos L.length)) (i : Int)) ((max acc dd + 1 : Nat) : Int) := by
   intro j
   induction j with
   | zero =>
    intro e i acc pre rr dd hp he he' hi hacc h
    rw [mL] at h
    simp only [Option.some.injEq, Prod.mk.injEq] at h
    obtain ⟨_, rfl⟩ := h
    refine Ev.step (fun k => by rw [spec_l5Depth.l0]) ?_
    simp only [kidsL, List.map_nil, List.append_nil, hp, if_neg (show ¬ (i : Int) < (i : Int) by omega), w64s (show acc + 1 < 9223372036854775808 by omega), Nat.max_zero]
    exact Ev.now _
   | succ j ihj =>
    intro e i acc pre rr dd hp he he' hi hacc h
    obtain ⟨r2, d1, d2, g1, g2, g3, g4⟩ := mL_succ h
    have hq1 := me_len g1
    have hq2 := me_depth g1
    rw [List.length_drop, ms_len] at hq1 hq2
    have h3 := suf_drop (me_suf g1) e (ms L) rfl
    rw [ms_len] at h3
    refine Ev.step (fun k => by rw [spec_l5Depth.l0]) ?_
    have hlen : (pre ++ (kidsL (j + 1) ((ms L).drop e)).map (pos L.length)).length = m := by
     rw [List.length_append, List.length_map, kidsL_len, hp]; omega
    have hrd : rd (pre ++ (kidsL (j + 1) ((ms L).drop e)).map (pos L.length)) (i : Int) = (e : Int) := by
     rw [kidsL, List.map_cons, ← hp, rd_mid]
     unfold pos; rw [List.length_drop, ms_len]; omega
    simp only [hlen, hrd, if_pos (show (i : Int) < (m : Int) by omega), if_pos (show (0 : Int) ≤ (i : Int) by omega), w64s (show i + 1 < 9223372036854775808 by omega)]
    refine ev_bind (ih e r2 d1 (by omega) he' g1) ?_
    rw [mx_nat]
    have := ihj (L.length - r2.length) (i + 1) (max acc d1) (pre ++ [(e : Int)]) rr d2 (by rw [List.length_append, List.length_singleton, hp]) (by omega) (by omega) (by omega) (by omega) (by rw [h3]; exact g2)
    rw [h3, List.append_assoc, List.singleton_append] at this
    rw [g3, ← Nat.max_assoc]
    rw [kidsL, g4, List.map_cons, show pos L.length ((ms L).drop e) = (e : Int) by unfold pos; rw [List.length_drop, ms_len]; omega]
    exact this
  have := loop m (at_ + 1) 0 0 [] r1 D rfl (by omega) hlt (by omega) (by omega) h1
  rw [List.nil_append, Nat.zero_max] at this
  exact this
def cvc (c : S35) : Bool := cv false c.f0 c.f1 c.f2
/-- an expression. -/
def evB (L : List S35) : Bool := decide (1 ≤ L.length ∧ L.length ≤ 60) && L.all cvc && (match me (ms L) with
 | some ([], d) => decide (d ≤ 12)
 | _ => false)
theorem mok_of {L : List S35} (h : L.all cvc = true) : MOk L := fun c hc => cv_many (List.all_eq_true.1 h c hc)
theorem tree_ev (L : List S35) (hv : L.all cvc = true) (hl : L.length ≤ 1000) :
  Ev (fun k => impl_treeValid.f k L) (decide (1 ≤ L.length ∧ L.length ≤ 60) && (match me (ms L) with
 | some ([], d) => decide (d ≤ 12)
 | _ => false)) := by
 unfold impl_treeValid.f
 have hin : impl_in.f (L.length : Int) 1 60 = some (decide (1 ≤ L.length ∧ L.length ≤ 60)) := by
  rw [in_dec]; congr 1; rw [Bool.eq_iff_iff]; simp only [decide_eq_true_eq]; omega
 rw [hin]
 simp only [Option.bind_some]
 by_cases h1 : 1 ≤ L.length ∧ L.length ≤ 60
 ·simp only [decide_eq_true h1, if_true, Bool.true_and]
  have := measure_ev L (mok_of hv) hl _ 0 (Nat.le_refl _) (Nat.zero_le _)
  rw [List.drop_zero] at this
  cases hme : me (ms L) with
  | none =>
   rw [hme] at this
   refine ev_bind (a := ((-1 : Int), (0 : Int))) this ?_
   simp only [if_neg (show ¬ (-1 : Int) = (L.length : Int) by omega)]
   exact Ev.now _
  | some x =>
   obtain ⟨r, d⟩ := x
   have hlt := me_len hme
   rw [ms_len] at hlt
   rw [hme] at this
   cases r with
   | nil =>
    refine ev_bind (a := ((L.length : Int), (d : Int))) this ?_
    simp only [if_true]
    rw [show decide ((d : Int) ≤ 12) = decide (d ≤ 12) by rw [Bool.eq_iff_iff]; simp only [decide_eq_true_eq]; omega]
    exact Ev.now _
   | cons y r =>
    rw [List.length_cons] at hlt
    refine ev_bind (a := (((L.length - (r.length + 1) : Nat) : Int), (d : Int))) this ?_
    simp only [if_neg (show ¬ ((L.length - (r.length + 1) : Nat) : Int) = (L.length : Int) by omega)]
    exact Ev.now _
 ·simp only [decide_eq_false h1, Bool.false_eq_true, if_false, Bool.false_and]
  exact Ev.now _
theorem cvc_at (L : List S35) (i : Nat) (h : i < L.length) : cv false (rd_T35 L (i : Int)).f0 (rd_T35 L (i : Int)).f1 (rd_T35 L (i : Int)).f2 = cvc L[i] := by rw [rdC_nat L i h]; rfl
theorem impl_ex (L : List S35) (hA : AllC 60 L) (hl : L.length ≤ 1000) : Ev (fun k => impl_ExprValid.f k L) (evB L) := by
 unfold impl_ExprValid.f
 have hin : impl_in.f (L.length : Int) 1 60 = some (decide (1 ≤ L.length ∧ L.length ≤ 60)) := by
  rw [in_dec]; congr 1; rw [Bool.eq_iff_iff]; simp only [decide_eq_true_eq]; omega
 rw [hin]
 simp only [Option.bind_some]
 unfold evB
 by_cases h1 : 1 ≤ L.length ∧ L.length ≤ 60
 ·simp only [decide_eq_true h1, if_true, Bool.true_and]
  have loop : ∀ (j i : Nat), i + j = L.length → (∀ c ∈ L.take i, cvc c = true) →
    Ev (fun k => impl_ExprValid.l0 k L L (L.length : Int) (i : Int)) ((L.drop i).all cvc && (match me (ms L) with
     | some ([], d) => decide (d ≤ 12)
     | _ => false)) := by
   intro j
   induction j with
   | zero =>
    intro i hi hp
    refine Ev.step (fun k => by rw [impl_ExprValid.l0]) ?_
    simp only [if_neg (show ¬ (i : Int) < (L.length : Int) by omega)]
    rw [List.take_of_length_le (by omega)] at hp
    have := tree_ev L (List.all_eq_true.2 hp) hl
    rw [decide_eq_true h1, Bool.true_and] at this
    rw [List.drop_eq_nil_of_le (by omega), List.all_nil, Bool.true_and]
    exact ev_bind this (Ev.now _)
   | succ j ih =>
    intro i hi hp
    have hlt : i < L.length := by omega
    refine Ev.step (fun k => by rw [impl_ExprValid.l0]) ?_
    simp only [if_pos (show (i : Int) < (L.length : Int) by omega), if_pos (show (0 : Int) ≤ (i : Int) by omega), w64s (show i + 1 < 9223372036854775808 by omega)]
    have hsz := hA L[i] (List.getElem_mem hlt)
    refine ev_bind (cv_impl _ _ _ (by rw [rdC_nat L i hlt]; omega)) ?_
    rw [cvc_at L i hlt, List.drop_eq_getElem_cons hlt, List.all_cons]
    cases hc : cvc L[i] with
    | false => simp only [Bool.false_eq_true, if_false, Bool.false_and]; exact Ev.now _
    | true =>
     simp only [if_true, Bool.true_and]
     refine ih (i + 1) (by omega) (fun c hcm => ?_)
     rw [List.take_succ_eq_append_getElem hlt] at hcm
     rcases List.mem_append.1 hcm with e | e
     ·exact hp c e
     ·rw [List.mem_singleton] at e; rw [e]; exact hc
  exact loop L.length 0 (by omega) (fun c hc => by simp at hc)
 ·simp only [decide_eq_false h1, Bool.false_eq_true, if_false, Bool.false_and]
  exact Ev.now _
theorem spec_ex (L : List S35) (hA : AllC 60 L) (hl : L.length ≤ 1000) : Ev (fun k => spec_ExprValid.f k L) (evB L) := by
 unfold spec_ExprValid.f
 have hin : spec_l1In.f (L.length : Int) 1 60 = some (decide (1 ≤ L.length ∧ L.length ≤ 60)) := by
  rw [in_spec]; congr 1; rw [Bool.eq_iff_iff]; simp only [decide_eq_true_eq]; omega
 have loop : ∀ (j i : Nat), i + j = L.length → (∀ c ∈ L.take i, cvc c = true) →
   Ev (fun k => spec_ExprValid.l0 k L (i : Int)) (decide (1 ≤ L.length ∧ L.length ≤ 60) && (L.drop i).all cvc && (match me (ms L) with
    | some ([], d) => decide (d ≤ 12)
    | _ => false)) := by
  intro j
  induction j with
  | zero =>
   intro i hi hp
   refine Ev.step (fun k => by rw [spec_ExprValid.l0]) ?_
   simp only [if_neg (show ¬ (i : Int) < (L.length : Int) by omega), hin, Option.bind_some]
   rw [List.take_of_length_le (by omega)] at hp
   have hv := List.all_eq_true.2 hp
   rw [List.drop_eq_nil_of_le (by omega), List.all_nil, Bool.and_true]
   by_cases h1 : 1 ≤ L.length ∧ L.length ≤ 60
   ·simp only [decide_eq_true h1, if_true, Bool.true_and]
    have hen := end_ev L (mok_of hv) hl 0 (Nat.zero_le _)
    rw [List.drop_zero] at hen
    cases hme : me (ms L) with
    | none =>
     rw [hme] at hen
     refine ev_bind (a := (-1 : Int)) hen ?_
     simp only [if_neg (show ¬ (-1 : Int) = (L.length : Int) by omega)]
     exact Ev.now _
    | some x =>
     obtain ⟨r, d⟩ := x
     have hlt := me_len hme
     rw [ms_len] at hlt
     rw [hme] at hen
     cases r with
     | nil =>
      refine ev_bind (a := (L.length : Int)) hen ?_
      simp only [if_true]
      refine ev_bind (depth_ev L (mok_of hv) hl _ 0 [] d (Nat.le_refl _) (Nat.zero_le _) (by rw [List.drop_zero]; exact hme)) ?_
      rw [show decide ((d : Int) ≤ 12) = decide (d ≤ 12) by rw [Bool.eq_iff_iff]; simp only [decide_eq_true_eq]; omega]
      exact Ev.now _
     | cons y r =>
      rw [List.length_cons] at hlt
      refine ev_bind (a := ((L.length - (r.length + 1) : Nat) : Int)) hen ?_
      simp only [if_neg (show ¬ ((L.length - (r.length + 1) : Nat) : Int) = (L.length : Int) by omega)]
      exact Ev.now _
   ·simp only [decide_eq_false h1, Bool.false_eq_true, if_false, Bool.false_and]
    exact Ev.now _
  | succ j ih =>
   intro i hi hp
   have hlt : i < L.length := by omega
   refine Ev.step (fun k => by rw [spec_ExprValid.l0]) ?_
   simp only [if_pos (show (i : Int) < (L.length : Int) by omega), if_pos (show (0 : Int) ≤ (i : Int) by omega), w64s (show i + 1 < 9223372036854775808 by omega)]
   have hsz := hA L[i] (List.getElem_mem hlt)
   refine ev_bind (cv_spec _ _ _ (by rw [rdC_nat L i hlt]; omega)) ?_
   rw [cv_same (by rw [rdC_nat L i hlt]; exact .inl hsz), cvc_at L i hlt, List.drop_eq_getElem_cons hlt, List.all_cons]
   cases hc : cvc L[i] with
   | false => simp only [Bool.false_eq_true, if_false, Bool.false_and, Bool.and_false]; exact Ev.now _
   | true =>
    simp only [if_true, Bool.true_and]
    refine ih (i + 1) (by omega) (fun c hcm => ?_)
    rw [List.take_succ_eq_append_getElem hlt] at hcm
    rcases List.mem_append.1 hcm with e | e
    ·exact hp c e
    ·rw [List.mem_singleton] at e; rw [e]; exact hc
 exact loop L.length 0 (by omega) (fun c hc => by simp at hc)
theorem evB_iff {L : List S35} : evB L = true ↔ (1 ≤ L.length ∧ L.length ≤ 60) ∧ L.all cvc = true ∧ ∃ d, me (ms L) = some ([], d) ∧ d ≤ 12 := by
 unfold evB
 rw [Bool.and_eq_true, Bool.and_eq_true, decide_eq_true_eq, and_assoc]
 refine and_congr Iff.rfl (and_congr Iff.rfl ?_)
 cases me (ms L) with
 | none => simp
 | some x =>
  obtain ⟨r, d⟩ := x
  cases r with
  | nil => simp
  | cons y r => simp

theorem AllC.sub {m : Nat} {L : List S35} (h : AllC m L) (i j : Nat) : AllC m ((L.take j).drop i) := fun c hc => h c (List.mem_of_mem_take (List.mem_of_mem_drop hc))
theorem all_sub {L : List S35} (h : L.all cvc = true) (i j : Nat) : ((L.take j).drop i).all cvc = true := List.all_eq_true.2 fun c hc => List.all_eq_true.1 h c (List.mem_of_mem_take (List.mem_of_mem_drop hc))
theorem in_at (L : List S35) (hl : L.length ≤ 1000) (at_ : Int) : impl_in.f at_ 0 (wrap64 ((L.length : Int) - 1)) = some (decide (0 ≤ at_ ∧ at_ < (L.length : Int))) ∧ spec_l1In.f at_ 0 (wrap64 ((L.length : Int) - 1)) = some (decide (0 ≤ at_ ∧ at_ < (L.length : Int))) := by
 rw [w64 (by omega) (by omega), in_dec, in_spec]
 constructor <;> (congr 1; rw [Bool.eq_iff_iff]; simp only [decide_eq_true_eq]; omega)
/-- where an expression ends; -1 where there is none. -/
def endI (L : List S35) (at_ : Int) : Int := if evB L = true ∧ 0 ≤ at_ ∧ at_ < (L.length : Int) then (mres L.length (me ((ms L).drop at_.toNat))).1 else -1
theorem endI_impl (L : List S35) (hA : AllC 60 L) (hl : L.length ≤ 1000) (at_ : Int) : Ev (fun k => impl_ExprEnd.f k L at_) (endI L at_) := by
 obtain ⟨i1, _⟩ := in_at L hl at_
 unfold endI impl_ExprEnd.f
 refine ev_bind (impl_ex L hA hl) ?_
 cases hv : evB L with
 | false =>
  rw [if_neg (fun h => by cases h.1)]
  simp only [Bool.false_eq_true, if_false]; exact Ev.now _
 | true =>
  have hm := mok_of (evB_iff.1 hv).2.1
  by_cases hat : 0 ≤ at_ ∧ at_ < (L.length : Int)
  ·rw [if_pos ⟨rfl, hat⟩]
   obtain ⟨a, rfl⟩ := Int.eq_ofNat_of_zero_le hat.1
   rw [Int.toNat_natCast]
   simp only [if_true, i1, Option.bind_some, decide_eq_true hat]
   exact ev_bind (measure_ev L hm hl _ a (Nat.le_refl _) (by omega)) (Ev.now _)
  ·rw [if_neg (fun h => hat h.2)]
   simp only [if_true, i1, Option.bind_some, decide_eq_false hat, Bool.false_eq_true, if_false]; exact Ev.now _
/-- what stands between a place and its end. -/
theorem sub_ok {L : List S35} (hv : evB L = true) (a : Nat) (ha : a < L.length) : ∃ r d, me ((ms L).drop a) = some (r, d) ∧ r.length < L.length - a ∧ evB ((L.take (L.length - r.length)).drop a) = true ∧ me (ms ((L.take (L.length - r.length)).drop a)) = some ([], d) := by
 obtain ⟨h1, h2, D, h3, h4⟩ := evB_iff.1 hv
 obtain ⟨r, d, e1, e2, _⟩ := me_sub _ (ms L) [] D a (Nat.le_refl _) h3 (by rw [ms_len, List.length_nil]; omega)
 have hlt := me_len e1
 rw [List.length_drop, ms_len] at hlt
 have hme : me (ms ((L.take (L.length - r.length)).drop a)) = some ([], d) := by
  have := me_take e1
  rw [List.length_drop, ms_len] at this
  rw [ms_drop, ms_take, List.drop_take]
  rw [show L.length - r.length - a = L.length - a - r.length by omega]
  exact this
 refine ⟨r, d, e1, hlt, evB_iff.2 ⟨?_, all_sub h2 _ _, d, hme, by omega⟩, hme⟩
 rw [List.length_drop, List.length_take]; omega

theorem alive_ev : Ev (fun k => laws_alive.f k) true := by
 unfold laws_alive.f
 refine ev_bind (impl_tv (⟨#[97]⟩ : ByteArray) (by decide)) ?_
 have : tv (bytesOf (⟨#[97]⟩ : ByteArray)) = true := by decide
 rw [this]
 exact Ev.now _

def depI (L : List S35) : Int := if evB L = true then (mres L.length (me (ms L))).2 else -1
theorem depI_impl (L : List S35) (hA : AllC 60 L) (hl : L.length ≤ 1000) : Ev (fun k => impl_ExprDepth.f k L) (depI L) := by
 unfold impl_ExprDepth.f depI
 refine ev_bind (impl_ex L hA hl) ?_
 cases hv : evB L with
 | false => simp only [Bool.false_eq_true, if_false]; exact Ev.now _
 | true =>
  have hm := mok_of (evB_iff.1 hv).2.1
  simp only [if_true]
  have := measure_ev L hm hl _ 0 (Nat.le_refl _) (Nat.zero_le _)
  rw [List.drop_zero] at this
  exact ev_bind this (Ev.now _)
theorem depI_spec (L : List S35) (hA : AllC 60 L) (hl : L.length ≤ 1000) : Ev (fun k => spec_ExprDepth.f k L) (depI L) := by
 unfold spec_ExprDepth.f depI
 refine ev_bind (spec_ex L hA hl) ?_
 cases hv : evB L with
 | false => simp only [Bool.false_eq_true, if_false]; exact Ev.now _
 | true =>
  obtain ⟨h1, h2, d, h3, h4⟩ := evB_iff.1 hv
  simp only [if_true]
  rw [h3]
  refine ev_bind (depth_ev L (mok_of h2) hl _ 0 [] d (Nat.le_refl _) (Nat.zero_le _) (by rw [List.drop_zero]; exact h3)) (Ev.now _)
theorem drawDepth (l : List Int) (hw : ∀ x ∈ l, (Lit.int .u8 x).wf = true) : EvP (fun k => spec_DrawExprDepth.f k l) (fun r => r.length ≤ 100 ∧ AllC 60 r) := by
 obtain ⟨L, hL, ho⟩ := open_ev l hw
 unfold spec_DrawExprDepth.f
 rw [ho]
 simp only [Option.bind_some]
 refine EvP.bind (expr_p L hL 6 (by omega) (by omega) 0 (by omega) (by omega)) ?_
 rintro ⟨xs, p⟩ ⟨a1, a2, _, _, _⟩
 exact EvP.now ⟨a1, a2⟩
theorem parts_ev (L : List S35) (hA : AllC 60 L) (hl : L.length ≤ 1000) (hv : evB L = true) (m : Nat) (T : List Nat) (hms : ms L = m :: T) (D : Nat) (hT : mL me m T = some ([], D)) :
  Ev (fun k => impl_ExprParts.f k L 0) ((kidsL m T).map (pos L.length)) := by
 obtain ⟨h1, h2, _⟩ := evB_iff.1 hv
 have hm := mok_of h2
 obtain ⟨m', q1, q2, q3⟩ := many_at hm 0 (by omega)
 rw [List.drop_zero, hms, List.drop_succ_cons, List.drop_zero] at q3
 obtain ⟨rfl, _⟩ := List.cons.inj q3
 have hd1 : (ms L).drop 1 = T := by rw [hms]; rfl
 unfold impl_ExprParts.f
 refine ev_bind (impl_ex L hA hl) ?_
 obtain ⟨i1, _⟩ := in_at L hl 0
 simp only [hv, if_true, i1, Option.bind_some, decide_eq_true (show (0 : Int) ≤ 0 ∧ (0 : Int) < (L.length : Int) by omega)]
 have hp : Ev (fun k => impl_partsAt.f k L 0) ((kidsL m T).map (pos L.length)) := by
  unfold impl_partsAt.f
  have hw : wrap64 ((0 : Int) + 1) = ((1 : Nat) : Int) := by rw [w64 (by omega) (by omega)]; rfl
  rw [hw]
  have := kidsI_l L hm hl 0 m (by omega) q1 q2 m 0 1 [] [] D (by omega) (by omega) (by simp; omega) (by rw [hd1]; exact hT) ((1 : Nat) : Int) (fun _ => rfl)
  rw [List.nil_append, hd1] at this
  exact this
 exact ev_bind hp (Ev.now _)
theorem FnExprDepth : laws_FnExprDepth.Pure := by
 intro l _ _ hw
 apply Ev.rounds
 unfold laws_FnExprDepth.f
 by_cases h : (l.length : Int) > 1048576
 ·simp only [if_pos h]; exact Ev.now _
 ·simp only [if_neg h]
  obtain ⟨L, ⟨hl, hA⟩, hd⟩ := drawDepth l hw
  refine ev_bind hd (ev_bind (depI_impl L hA (by omega)) (ev_bind (depI_spec L hA (by omega)) ?_))
  simp only [if_true]
  cases hv : evB L with
  | false =>
   have hdp : depI L = -1 := by unfold depI; rw [hv]; rfl
   rw [hdp]
   simp only [if_pos (show (-1 : Int) < 0 by omega), if_true]
   exact ev_bind alive_ev (Ev.now _)
  | true =>
   obtain ⟨h1, h2, d, h3, h4⟩ := evB_iff.1 hv
   have hm := mok_of h2
   have hdp : depI L = (d : Int) := by unfold depI; rw [hv, h3]; rfl
   rw [hdp]
   simp only [if_neg (show ¬ (d : Int) < 0 by omega)]
   obtain ⟨m, T, hms⟩ : ∃ m T, ms L = m :: T := by
    cases hq : ms L with
    | nil => have := ms_len L; rw [hq, List.length_nil] at this; omega
    | cons m T => exact ⟨m, T, rfl⟩
   have h3' := h3
   rw [hms, me_cons] at h3'
   obtain ⟨⟨r0, D⟩, hT, he⟩ := Option.bind_eq_some_iff.1 h3'
   simp only [Option.some.injEq, Prod.mk.injEq] at he
   obtain ⟨rfl, rfl⟩ := he
   have hm8 : m ≤ 8 := by
    obtain ⟨m', _, q2, q3⟩ := many_at hm 0 (by omega)
    rw [List.drop_zero, hms] at q3
    obtain ⟨rfl, _⟩ := List.cons.inj q3
    exact q2
   refine ev_bind (parts_ev L hA (by omega) hv m T hms D hT) ?_
   have hd1 : (ms L).drop 1 = T := by rw [hms]; rfl
   have loop : ∀ (j e i most : Nat) (pre : List Int) (dd : Nat), pre.length = i → 1 ≤ e → e ≤ L.length → i + j = m → most ≤ 1000 → mL me j ((ms L).drop e) = some ([], dd) → max most dd = D →
     Ev (fun k => laws_FnExprDepth.l0 k L ((D + 1 : Nat) : Int) (most : Int) (pre ++ (kidsL j ((ms L).drop e)).map (pos L.length)) (i : Int)) true := by
    intro j
    induction j with
    | zero =>
     intro e i most pre dd hp he he' hi hmo g hmx
     rw [mL] at g
     simp only [Option.some.injEq, Prod.mk.injEq] at g
     obtain ⟨_, rfl⟩ := g
     rw [Nat.max_zero] at hmx
     subst hmx
     refine Ev.step (fun k => by rw [laws_FnExprDepth.l0]) ?_
     simp only [kidsL, List.map_nil, List.append_nil, hp, if_neg (show ¬ (i : Int) < (i : Int) by omega), w64s (show most + 1 < 9223372036854775808 by omega), if_true]
     rw [show decide (((most + 1 : Nat) : Int) ≤ 12) = true from decide_eq_true (by omega)]
     exact Ev.now _
    | succ j ihj =>
     intro e i most pre dd hp he he' hi hmo g hmx
     obtain ⟨r2, d1, d2, g1, g2, g3, g4⟩ := mL_succ g
     have hq1 := me_len g1
     have hq2 := me_depth g1
     rw [List.length_drop, ms_len] at hq1 hq2
     have hsd := suf_drop (me_suf g1) e (ms L) rfl
     rw [ms_len] at hsd
     have hlt : e < L.length := by omega
     obtain ⟨r', d', k1, k2, k3, k4⟩ := sub_ok hv e hlt
     rw [g1] at k1
     simp only [Option.some.injEq, Prod.mk.injEq] at k1
     obtain ⟨rfl, rfl⟩ := k1
     refine Ev.step (fun k => by rw [laws_FnExprDepth.l0]) ?_
     have hlen : (pre ++ (kidsL (j + 1) ((ms L).drop e)).map (pos L.length)).length = m := by
      rw [List.length_append, List.length_map, kidsL_len, hp]; omega
     have hrd : rd (pre ++ (kidsL (j + 1) ((ms L).drop e)).map (pos L.length)) (i : Int) = (e : Int) := by
      rw [kidsL, List.map_cons, ← hp, rd_mid]
      unfold pos; rw [List.length_drop, ms_len]; omega
     simp only [hlen, hrd, if_pos (show (i : Int) < (m : Int) by omega), if_pos (show (0 : Int) ≤ (i : Int) by omega), w64s (show i + 1 < 9223372036854775808 by omega)]
     have hen := endI_impl L hA (by omega) (e : Int)
     have hend : endI L (e : Int) = ((L.length - r2.length : Nat) : Int) := by
      unfold endI
      rw [if_pos ⟨hv, by omega, by omega⟩, Int.toNat_natCast, g1]; rfl
     rw [hend] at hen
     refine ev_bind hen ?_
     simp only [if_neg (show ¬ ((L.length - r2.length : Nat) : Int) < (e : Int) by omega), if_neg (show ¬ ((L.length - r2.length : Nat) : Int) > (L.length : Int) by omega), if_pos (show (0 : Int) ≤ (e : Int) by omega), if_pos (show (e : Int) ≤ ((L.length - r2.length : Nat) : Int) by omega), if_pos (show ((L.length - r2.length : Nat) : Int) ≤ (L.length : Int) by omega), Int.toNat_natCast]
     have hds := depI_impl ((L.take (L.length - r2.length)).drop e) (hA.sub _ _) (by rw [List.length_drop, List.length_take]; omega)
     have hdd : depI ((L.take (L.length - r2.length)).drop e) = (d1 : Int) := by unfold depI; rw [k3, k4]; rfl
     rw [hdd] at hds
     refine ev_bind hds ?_
     rw [mx_nat]
     have := ihj (L.length - r2.length) (i + 1) (max most d1) (pre ++ [(e : Int)]) d2 (by rw [List.length_append, List.length_singleton, hp]) (by omega) (by omega) (by omega) (by omega) (by rw [hsd]; exact g2) (by rw [← hmx, g3, Nat.max_assoc])
     rw [hsd, List.append_assoc, List.singleton_append] at this
     rw [kidsL, g4, List.map_cons, show pos L.length ((ms L).drop e) = (e : Int) by unfold pos; rw [List.length_drop, ms_len]; omega]
     exact this
   have := loop m 1 0 0 [] D rfl (Nat.le_refl _) (by omega) (by omega) (by omega) (by rw [hd1]; exact hT) (Nat.zero_max _)
   rw [List.nil_append, hd1] at this
   exact this

end Go.Proofs.YtifeiepociopoaaGreatDoor.Pure
namespace Go.Proofs.YtifeiepociopoaaGreatDoor.PrintWords
/-- The word that the printed row names: a slice of whole numbers is no longer than its weight allows. -/
theorem sized_ints {H : Type} {enc : TypeId × Value → H} {P : Program} {W : World} {base : Nat} {spare : Nat → Bool} {held : Bool} {t e : TypeId} {k : IntKind} {a : Option Addr} {len cap : Nat} {d : DataW H} {ps : List MemPlace} {ts : List TypeId} {ds : List (DataW H)} {j : Nat}
  (hsz : (DataW.weightsEach P ts ds).all (· ≤ reachBytes) = true) (ht : ts[j]? = some t) (hd : ds[j]? = some d) (hu : P.underlying t = some (.slice e)) (he : P.underlying e = some (.int k)) (hc : P.cellsOf e = 1) {B : Nat} (hB : P.bytesOf e = B)
  (h : DataW.Trod enc P W base spare held t (.slice a len cap) d ps) : len * B ≤ 140737488351232 :=
 Go.Proofs.YtifeiepociopoaaGreatDoorW.PrintWords.sized_ints hsz ht hd hu he hc hB h
end Go.Proofs.YtifeiepociopoaaGreatDoor.PrintWords
