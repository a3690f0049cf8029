-- Written for this session by its program hprint.py over the kit's print: functions, and contracts that the walk of the Go code proves.
import Derived.Laws.RangeString
import Derived.Laws.RangeAny
import Derived.Test.YtifeiepociopoaaGreatDoorPExx0
import Derived.Test.YtifeiepociopoaaGreatDoorPExx5
import Derived.Test.YtifeiepociopoaaGreatDoorPExx6
namespace Go.Proofs.YtifeiepociopoaaGreatDoor.PEx
open Go.RowKit Go.Proofs.YtifeiepociopoaaGreatDoor.Hand Go.Proofs.YtifeiepociopoaaGreatDoorW.PrintWords Go.Proofs.YtifeiepociopoaaGreatDoorW.PrintLast Go.Proofs.YtifeiepociopoaaGreatDoorW.PrintMore
attribute [local go_sem] max2_int min2_int max_two min_two max_three min_three max_four min_four   -- for this text's walks alone
set_option linter.unusedVariables false
set_option linter.unusedSimpArgs false

/-! ### impl_DecimalOf: function 45 -/
theorem zz7_0_ {P1 Q : Prop} (h1 : P1) (f : P1 → Q := by intro zq1_; repeat (first | (with_reducible first | exact zq1_ | apply below_alloc | apply pw_below_drewN | apply below_drew1) | exact zq1_)) : Q := f h1
theorem zz7_1_ {Q : Prop} (f : Q := by (try simp only [List.map_toArray, List.map_cons, List.map_nil]); first | done | rfl | (simp only [List.length_drop, List.length_take]; rfl)) : Q := f
theorem zz7_2_ {P1 Q : Prop} (h1 : P1) (f : P1 → Q := by intro zq1_; (with_reducible repeat (first | refine blk_drewN ?_ _ | refine blk_drew ?_ | refine blk_alloc ?_ _)); exact zq1_) : Q := f h1
theorem zz7_3_ {P1 P2 Q : Prop} (h1 : P1) (h2 : P2) (f : P1 → P2 → Q := by intro zq1_ zq2_; repeat (first | (with_reducible first | exact zq1_ | apply below_alloc | apply pw_below_drewN | apply below_drew1 | refine below_set ?_ zq2_) | exact zq1_)) : Q := f h1 h2
/-- a short string of plain bytes. -/
def plainB (s : ByteArray) : Bool := decide (s.size ≤ 18) && s.data.toList.all fun b => decide (b.toNat < 128)
def p10 (n : Nat) : Int := 10 ^ n
theorem p10_bd : ∀ n : Nat, n ≤ 18 → 0 < p10 n ∧ p10 n ≤ 1000000000000000000 := by decide
theorem p10_succ (n : Nat) : p10 (n + 1) = p10 n * 10 := rfl
theorem plainB_size {s : ByteArray} (h : plainB s = true) : s.size ≤ 18 := by
 unfold plainB at h; rw [Bool.and_eq_true] at h; exact of_decide_eq_true h.1
theorem plainB_at {s : ByteArray} (h : plainB s = true) (i : Nat) (hi : i < s.size) : (s[i]'hi).toNat < 128 := by
 unfold plainB at h; rw [Bool.and_eq_true] at h
 exact of_decide_eq_true (List.all_eq_true.1 h.2 _ (by simp [ByteArray.getElem_eq_getElem_data]))
def impl_DecimalOf.j0 : Nat → ByteArray → ByteArray → Bool → Option (Int × Int × Bool)
 | 0, _, _, _ => none
 | k + 1, x4, x5, x26 => if x26 = true then (some (0, 0, false)) else (if x4.size + x5.size ≤ 9223372036854775807 then ((strconv_Atoi.f (x4 ++ x5)).bind fun bt286 => (if plainB x5 = true then ((impl_reduced.f k bt286.1 (p10 x5.size)).bind fun bt288 => (some (bt288.1, bt288.2.1, bt288.2.2))) else (none))) else (none))
def impl_DecimalOf.f (k : Nat) (a0 : ByteArray) : Option (Int × Int × Bool) := (strings_Cut.f a0 (⟨#[46]⟩ : ByteArray)).bind fun bt281 => ((impl_digits.f k bt281.1 1 10).bind fun t284 => (if t284 = true then (if bt281.2.2 = true then ((impl_digits.f k bt281.2.1 1 6).bind fun t285 => (impl_DecimalOf.j0 k bt281.1 bt281.2.1 (!t285))) else (impl_DecimalOf.j0 k bt281.1 bt281.2.1 false)) else (impl_DecimalOf.j0 k bt281.1 bt281.2.1 true)))
theorem impl_DecimalOf.mono_l : ∀ k, (∀ y0 y1 y2, LeO (impl_DecimalOf.j0 k y0 y1 y2) (impl_DecimalOf.j0 (k + 1) y0 y1 y2))
 | 0 => fun _ _ _ r h => by simp [impl_DecimalOf.j0] at h
 | k + 1 => by
  have ih0 := impl_DecimalOf.mono_l k
  ·intro y0 y1 y2
   unfold impl_DecimalOf.j0
   repeat' first
   | (with_reducible exact ih0 _ _ _)
   | (with_reducible exact impl_digits.mono _ _ _ _)
   | (with_reducible exact impl_reduced.mono _ _ _)
   | (with_reducible exact LeO.refl _)
   | (with_reducible exact LeO.none _)
   | (with_reducible refine LeO.ite ?_ ?_)
   | (with_reducible refine LeO.bind ?_ (fun _ => ?_))
   | exact ih0 _ _ _
   | exact impl_digits.mono _ _ _ _
   | exact impl_reduced.mono _ _ _
   | exact LeO.none _
   | refine LeO.ite ?_ ?_
   | refine LeO.bind ?_ (fun _ => ?_)
theorem impl_DecimalOf.mono : ∀ a0 k, LeO (impl_DecimalOf.f k a0) (impl_DecimalOf.f (k + 1) a0) := by
 intro a0 k
 have ih0 := impl_DecimalOf.mono_l k
 unfold impl_DecimalOf.f
 repeat' first
   | (with_reducible exact ih0 _ _ _)
   | (with_reducible exact impl_digits.mono _ _ _ _)
   | (with_reducible exact impl_reduced.mono _ _ _)
   | (with_reducible exact LeO.refl _)
   | (with_reducible exact LeO.none _)
   | (with_reducible refine LeO.ite ?_ ?_)
   | (with_reducible refine LeO.bind ?_ (fun _ => ?_))
   | exact ih0 _ _ _
   | exact impl_digits.mono _ _ _ _
   | exact impl_reduced.mono _ _ _
   | exact LeO.none _
   | refine LeO.ite ?_ ?_
   | refine LeO.bind ?_ (fun _ => ?_)
set_option maxHeartbeats 8000000 in
set_option maxRecDepth 100000 in
theorem impl_DecimalOf.calls (k : Nat) (a0 : ByteArray) (r1 : Int) (r2 : Int) (r3 : Bool) (w : World) (h : impl_DecimalOf.f k a0 = some (r1, r2, r3)) :
  Calls Tryz.prog 45 #[.string a0] w fun e w' => e = .returned (.tuple #[.agg #[.int .i64 r1, .int .i64 r2], .bool r3]) ∧ Below w.heap.size w w' := by
 have hu49 := Tryz.underlying49
 have HB := Aside0.mk (Below.refl w.heap.size w)
 have H : ((strings_Cut.f a0 (⟨#[46]⟩ : ByteArray)).bind fun bt281 => ((impl_digits.f k bt281.1 1 10).bind fun t284 => (if t284 = true then (if bt281.2.2 = true then ((impl_digits.f k bt281.2.1 1 6).bind fun t285 => (impl_DecimalOf.j0 k bt281.1 bt281.2.1 (!t285))) else (impl_DecimalOf.j0 k bt281.1 bt281.2.1 false)) else (impl_DecimalOf.j0 k bt281.1 bt281.2.1 true)))) = some (r1, r2, r3) := h
 clear h
 replace H := Option.bind_eq_some_iff.mp H
 obtain ⟨⟨t281, t282, t283⟩, A20, H⟩ := H
 try dsimp only at H
 have A2 := Aside0.mk A20
 clear A20
 have HC3 := Aside0.mk H
 clear H
 go_enter Tryz.func45, Tryz.ntmps45
 go_upto_region 2 with (first | ((with_reducible refine gate_dst (N := 2) rfl ?_); refine box_event ?hg (N := 2) ?hd (cs := #[.int .i64 0, .int .i64 0]) (t := 49) ?hr ?_; (case hd => rfl); (case hg => rfl); (case hr => first | (go_simp; done) | (go_simp; rfl)); intro gb280 hg w4 hbox hb; have n0_ := Aside0.mk (below_step (zz7_0_ HB.out) hb); have n1_ := Aside0.mk (hbox); have n2_ := Aside0.mk ((by rw [hg]; exact (below_size (zz7_0_ HB.out)) : w.heap.size ≤ gb280)); have n3_ := Aside0.mk ((by rw [hg]; exact (below_size (zz7_0_ HB.out)) : w.heap.size ≤ gb280)); clear HB; have HB := n0_; have BK280 := n1_; have GW280 := n2_; have GE280 := n3_; clear n0_ n1_ n2_ n3_; clear hb hbox hg) | ((with_reducible refine gate_callee (f := 46) rfl ?_); refine goesL_ (some 12) rfl rfl Tryz.func46 (by kernel_rfl) rfl #[.string a0, .string (⟨#[46]⟩ : ByteArray)] rfl (zz7_1_) ?_; (with_reducible refine (strings_Cut.calls a0 (⟨#[46]⟩ : ByteArray) t281 t282 t283 _ A2.out).mono ?_); rintro e w' ⟨rfl, ⟨nd, rfl⟩⟩; refine ⟨_, rfl, ?_⟩))
 (try simp only [Act.put, List.setIfInBounds_toArray, List.set_cons_zero, List.set_cons_succ])
 go_cut [26] (fun v26 wc => ∃ (kq : Nat) (x26_2 : Bool), v26 = .bool x26_2 ∧ Aside0 (impl_DecimalOf.j0 kq t281 t282 x26_2 = some (r1, r2, r3)) ∧ Aside0 (kq ≤ k) ∧ Aside0 (wc.heap[gb280]? = some (.cells #[.int .i64 0, .int .i64 0] 49 (0, 0))) ∧ Aside0 (Below w.heap.size w wc))
 case first =>
  have H := HC3.out
  clear HC3
  replace H := Option.bind_eq_some_iff.mp H
  obtain ⟨t284, A50, H⟩ := H
  try dsimp only at H
  have A5 := Aside0.mk A50
  clear A50
  by_cases c6 : t284 = true
  ·subst c6
   rw [if_pos rfl] at H
   by_cases c7 : t283 = true
   ·subst c7
    rw [if_pos rfl] at H
    replace H := Option.bind_eq_some_iff.mp H
    obtain ⟨t285, A80, H⟩ := H
    try dsimp only at H
    have A8 := Aside0.mk A80
    clear A80
    have H' := Aside0.mk H
    clear H
    go_wp2_with (first | ((with_reducible refine gate_callee (f := 47) rfl ?_); refine goesL_ (some 17) rfl rfl Tryz.func47 (by kernel_rfl) rfl #[.string t281, .int .i64 1, .int .i64 10] rfl (zz7_1_) ?_; (with_reducible refine (impl_digits.calls k t281 1 10 true _ A5.out).mono ?_); rintro e w' ⟨rfl, ⟨nd, rfl⟩⟩; refine ⟨_, rfl, ?_⟩) | (go_at_call 47; (with_reducible refine (impl_digits.calls k t282 1 6 t285 _ A8.out).mono ?_); rintro e w' ⟨rfl, ⟨nd, rfl⟩⟩))
    go_meet
    case rel => exact ⟨_, (!t285), (by first | rfl | (simp; done) | (simp [*]; done)), H', ⟨by first | omega | exact Nat.le_refl _⟩, ⟨zz7_2_ BK280.out⟩, ⟨zz7_3_ HB.out GE280.out⟩⟩
   ·replace c7 := Bool.eq_false_iff.mpr c7
    subst c7
    rw [if_neg (show ¬ (false = true) by decide)] at H
    have H' := Aside0.mk H
    clear H
    go_wp2_with (first | ((with_reducible refine gate_callee (f := 47) rfl ?_); refine goesL_ (some 17) rfl rfl Tryz.func47 (by kernel_rfl) rfl #[.string t281, .int .i64 1, .int .i64 10] rfl (zz7_1_) ?_; (with_reducible refine (impl_digits.calls k t281 1 10 true _ A5.out).mono ?_); rintro e w' ⟨rfl, ⟨nd, rfl⟩⟩; refine ⟨_, rfl, ?_⟩))
    go_meet
    case rel => exact ⟨_, (false), (by first | rfl | (simp; done) | (simp [*]; done)), H', ⟨by first | omega | exact Nat.le_refl _⟩, ⟨zz7_2_ BK280.out⟩, ⟨zz7_3_ HB.out GE280.out⟩⟩
  ·replace c6 := Bool.eq_false_iff.mpr c6
   subst c6
   rw [if_neg (show ¬ (false = true) by decide)] at H
   have H' := Aside0.mk H
   clear H
   go_wp2_with (first | ((with_reducible refine gate_callee (f := 47) rfl ?_); refine goesL_ (some 17) rfl rfl Tryz.func47 (by kernel_rfl) rfl #[.string t281, .int .i64 1, .int .i64 10] rfl (zz7_1_) ?_; (with_reducible refine (impl_digits.calls k t281 1 10 false _ A5.out).mono ?_); rintro e w' ⟨rfl, ⟨nd, rfl⟩⟩; refine ⟨_, rfl, ?_⟩))
   go_meet
   case rel => exact ⟨_, (true), (by first | rfl | (simp; done) | (simp [*]; done)), H', ⟨by first | omega | exact Nat.le_refl _⟩, ⟨zz7_2_ BK280.out⟩, ⟨zz7_3_ HB.out GE280.out⟩⟩
 case rest =>
  clear HC3
  try clear p2
  try clear c4
  try clear c6
  try clear c7
  obtain ⟨kq, x26_2, rfl, HA, HJ2, BK280, HB⟩ := hcut
  cases kq with
  | zero => exact absurd HA.out (by simp [impl_DecimalOf.j0])
  | succ kj2 =>
   have H := HA.out
   clear HA
   simp only [impl_DecimalOf.j0] at H
   by_cases c9 : x26_2 = true
   ·subst c9
    rw [if_pos rfl] at H
    simp only [Option.some.injEq, Prod.mk.injEq] at H
    obtain ⟨rfl, rfl, rfl⟩ := H
    have hcz10_0 : wc.cell? ⟨gb280, 0, none⟩ = some (.int .i64 0) := (blk_cell BK280.out 0).trans rfl
    have hcz10_1 : wc.cell? ⟨gb280, 1, none⟩ = some (.int .i64 0) := (blk_cell BK280.out 1).trans rfl
    have hfz10_0 := blk_frozen BK280.out 0
    have hfz10_1 := blk_frozen BK280.out 1
    go_wp2
    refine bodyPost_ret (results_ct rfl _ _ gb280 49 #[.int .i64 0, .int .i64 0] (0, 0) _ rfl (by (with_reducible repeat (first | refine blk_drewN ?_ _ | refine blk_drew ?_ | refine blk_alloc ?_ _)); refine blk_put (cs := #[.int .i64 0, .int .i64 0]) ?_ 1 _ rfl; (with_reducible repeat (first | refine blk_drewN ?_ _ | refine blk_drew ?_ | refine blk_alloc ?_ _)); refine blk_put (cs := #[.int .i64 0, .int .i64 0]) ?_ 0 _ rfl; (with_reducible repeat (first | refine blk_drewN ?_ _ | refine blk_drew ?_ | refine blk_alloc ?_ _)); exact BK280.out) Tryz.underlying49 rfl (by kernel_rfl)) rfl ?_
    exact ⟨by first | rfl | (simp [errW_none, errW_some] <;> rfl) | (simp [*, errW_none, errW_some] <;> rfl), zz7_3_ HB.out GE280.out⟩
   ·replace c9 := Bool.eq_false_iff.mpr c9
    subst c9
    rw [if_neg (show ¬ (false = true) by decide)] at H
    by_cases c11 : t281.size + t282.size ≤ 9223372036854775807
    ·rw [if_pos c11] at H
     have c11b0 := eq_true c11
     have c11b1 : decide (t281.size + t282.size ≤ 9223372036854775807) = true := decide_eq_true c11
     try have c11b2 : (9223372036854775807 < t281.size + t282.size) = False := eq_false (Nat.not_lt.2 c11)
     replace H := Option.bind_eq_some_iff.mp H
     obtain ⟨⟨t286, t287⟩, A120, H⟩ := H
     try dsimp only at H
     have A12 := Aside0.mk A120
     clear A120
     by_cases c_p : plainB t282 = true
     ·rw [if_pos c_p] at H
      have PL := Aside0.mk c_p
      clear c_p
      replace H := Option.bind_eq_some_iff.mp H
      obtain ⟨⟨t288, t289, t290⟩, A130, H⟩ := H
      try dsimp only at H
      have A13 := Aside0.mk A130
      clear A130
      simp only [Option.some.injEq, Prod.mk.injEq] at H
      obtain ⟨rfl, rfl, rfl⟩ := H
      go_wp2_with (first | ((with_reducible refine gate_callee (f := 48) rfl ?_); refine goesL_ (some 32) rfl rfl Tryz.func48 (by kernel_rfl) rfl #[.string (t281 ++ t282)] rfl (zz7_1_) ?_; (with_reducible refine (strconv_Atoi.calls (t281 ++ t282) t286 t287 _ A12.out).mono ?_); rintro e w14 ⟨rfl, hb⟩; refine ⟨_, rfl, ?_⟩; have n0_ := Aside0.mk (blk_below (g := gb280) (o := .cells #[.int .i64 0, .int .i64 0] 49 (0, 0)) (zz7_2_ BK280.out) hb); have n1_ := Aside0.mk (below_step (zz7_3_ HB.out GE280.out) hb); clear BK280; clear HB; have BK280 := n0_; have HB := n1_; clear n0_ n1_; (try clear hb); (try clear hb2); (try clear hk); (try clear hi); (try simp only [errW_none, errW_some])))
      go_loopw [9] (fun v w_ => ∃ pos : Nat, w_ = w14.iter t282 pos ∧ v = .int .i64 (p10 pos) ∧ pos ≤ t282.size) (fun _ w_ => t282.size - w_.iterPos w14.heap.size)
      case atStart => exact ⟨0, rfl, rfl, Nat.zero_le _⟩
      case round =>
       obtain ⟨pos, rfl, rfl, hpos⟩ := hrel
       have hbd := p10_bd pos (Nat.le_trans hpos (plainB_size PL.out))
       by_cases hp : pos < t282.size
       ·have hbd1 := p10_bd (pos + 1) (Nat.le_trans hp (plainB_size PL.out))
        have hnx : ∀ ty, (Instr.next (.pointer (some ⟨w14.heap.size, 0, none⟩)) true ty).run Tryz.prog (w14.iter t282 pos) = _ := fun ty => run_next_ascii w14 t282 pos ty hp (plainB_at PL.out pos hp)
        have hw10 : wrap64 (p10 pos * 10) = p10 (pos + 1) := by rw [← p10_succ]; unfold wrap64; omega
        go_wp2
        go_roundw
        case rel => exact ⟨pos + 1, rfl, by first | rfl | (simp; done) | (rw [hw10]; done) | (congr 1; exact hw10) | (simp [hw10]; done), hp⟩
        case measure => simp; omega
       ·have hnx : ∀ ty, (Instr.next (.pointer (some ⟨w14.heap.size, 0, none⟩)) true ty).run Tryz.prog (w14.iter t282 pos) = _ := fun ty => run_next_end w14 t282 pos ty hp
        obtain rfl : pos = t282.size := by omega
        clear hp hpos hbd
        have n0_ := Aside0.mk (show (w14.iter t282 t282.size).heap[gb280]? = some (.cells #[.int .i64 0, .int .i64 0] 49 (0, 0)) by unfold World.iter; exact blk_alloc BK280.out _)
        have n1_ := Aside0.mk (show Below w.heap.size w (w14.iter t282 t282.size) by unfold World.iter; exact below_alloc HB.out _)
        clear BK280 HB
        have BK280 := n0_
        have HB := n1_
        clear n0_ n1_
        go_wp2_with (first | ((with_reducible refine gate_callee (f := 60) rfl ?_); refine goesL_ (some 43) rfl rfl Tryz.func60 (by kernel_rfl) rfl #[.int .i64 t286, .int .i64 (p10 t282.size)] rfl (zz7_1_) ?_; (with_reducible refine (impl_reduced.calls kj2 t286 (p10 t282.size) t288 t289 t290 _ A13.out).mono ?_); rintro e w15 ⟨rfl, hb⟩; refine ⟨_, rfl, ?_⟩; have n0_ := Aside0.mk (blk_below (g := gb280) (o := .cells #[.int .i64 0, .int .i64 0] 49 (0, 0)) (zz7_2_ BK280.out) hb); have n1_ := Aside0.mk (below_step (zz7_3_ HB.out GE280.out) hb); clear BK280; clear HB; have BK280 := n0_; have HB := n1_; clear n0_ n1_; (try clear hb); (try clear hb2); (try clear hk); (try clear hi); have hcz16_0 : w15.cell? ⟨gb280, 0, none⟩ = some (.int .i64 0) := (blk_cell BK280.out 0).trans rfl; have hcz16_1 : w15.cell? ⟨gb280, 1, none⟩ = some (.int .i64 0) := (blk_cell BK280.out 1).trans rfl; have hfz16_0 := blk_frozen BK280.out 0; have hfz16_1 := blk_frozen BK280.out 1))
        refine bodyPost_ret (results_ct rfl _ _ gb280 49 #[.int .i64 t288, .int .i64 t289] (0, 0) _ rfl (by (with_reducible repeat (first | refine blk_drewN ?_ _ | refine blk_drew ?_ | refine blk_alloc ?_ _)); refine blk_put (cs := #[.int .i64 t288, .int .i64 0]) ?_ 1 _ rfl; (with_reducible repeat (first | refine blk_drewN ?_ _ | refine blk_drew ?_ | refine blk_alloc ?_ _)); refine blk_put (cs := #[.int .i64 0, .int .i64 0]) ?_ 0 _ rfl; (with_reducible repeat (first | refine blk_drewN ?_ _ | refine blk_drew ?_ | refine blk_alloc ?_ _)); exact BK280.out) Tryz.underlying49 rfl (by kernel_rfl)) rfl ?_
        exact ⟨by first | rfl | (simp [errW_none, errW_some] <;> rfl) | (simp [*, errW_none, errW_some] <;> rfl), zz7_3_ HB.out GE280.out⟩
     ·rw [if_neg c_p] at H
      exact absurd H (by simp)
    ·rw [if_neg c11] at H
     exact absurd H (by simp)

-- by hand: function 65 (strconv_Itoa): the text Hand

end Go.Proofs.YtifeiepociopoaaGreatDoor.PEx
