-- Written for this session by its program hprint.py over the kit's print: functions, and contracts that the walk of the Go code proves.
import Derived.Test.YtifeiepociopoaaGreatDoorPEdx0
import Derived.Test.YtifeiepociopoaaGreatDoorPEdx2
import Derived.Test.YtifeiepociopoaaGreatDoorPEdx13
import Derived.Test.YtifeiepociopoaaGreatDoorPEdx14
namespace Go.Proofs.YtifeiepociopoaaGreatDoor.PEd
open Go.RowKit Go.Proofs.YtifeiepociopoaaGreatDoor.Hand Go.Proofs.YtifeiepociopoaaGreatDoorW.PrintWords Go.Proofs.YtifeiepociopoaaGreatDoorW.PrintLast Go.Proofs.YtifeiepociopoaaGreatDoorW.PrintMore
attribute [local go_sem] max2_int min2_int max_two min_two max_three min_three max_four min_four   -- for this text's walks alone
set_option linter.unusedVariables false
set_option linter.unusedSimpArgs false

/-! ### spec_DecimalOf: function 54 -/
theorem zz15_0_ {P1 Q : Prop} (h1 : P1) (f : P1 → Q := by intro zq1_; repeat (first | (with_reducible first | exact zq1_ | apply below_alloc | apply pw_below_drewN | apply below_drew1) | exact zq1_)) : Q := f h1
theorem zz15_1_ {Q : Prop} (f : Q := by (try simp only [List.map_toArray, List.map_cons, List.map_nil]); first | done | rfl | (simp only [List.length_drop, List.length_take]; rfl)) : Q := f
theorem zz15_2_ {P1 Q : Prop} (h1 : P1) (f : P1 → Q := by intro zq1_; (with_reducible repeat (first | refine blk_drewN ?_ _ | refine blk_drew ?_ | refine blk_alloc ?_ _)); exact zq1_) : Q := f h1
theorem zz15_3_ {P1 P2 Q : Prop} (h1 : P1) (h2 : P2) (f : P1 → P2 → Q := by intro zq1_ zq2_; repeat (first | (with_reducible first | exact zq1_ | apply below_alloc | apply pw_below_drewN | apply below_drew1 | refine below_set ?_ zq2_) | exact zq1_)) : Q := f h1 h2
theorem zz15_4_ {P1 Q : Prop} (h1 : P1) (f : P1 → Q := by intro zq1_; (with_reducible repeat (first | refine blk_drewN ?_ _ | refine blk_drew ?_ | refine blk_alloc ?_ _)); refine blk_put (cs := #[.int .i64 0, .int .i64 0]) ?_ 1 _ rfl; (with_reducible repeat (first | refine blk_drewN ?_ _ | refine blk_drew ?_ | refine blk_alloc ?_ _)); refine blk_put (cs := #[.int .i64 0, .int .i64 0]) ?_ 0 _ rfl; (with_reducible repeat (first | refine blk_drewN ?_ _ | refine blk_drew ?_ | refine blk_alloc ?_ _)); exact zq1_) : Q := f h1
mutual
def spec_DecimalOf.j0 : Nat → ByteArray → Int → Int → Int → Int → Bool → Option (Int × Int × Bool)
 | 0, _, _, _, _, _, _ => none
 | k + 1, x0, x4, x5, x6, x7, x28 => if x28 = true then ((spec_l2Digits.f k x0 (wrap64 (x5 + 1)) 7).bind fun bt393 => ((spec_l1In.f (wrap64 ((wrap64 (bt393.2 - x5)) - 1)) 1 6).bind fun t395 => (if t395 = true then (spec_DecimalOf.l0 k x0 x4 x7 bt393.1 bt393.2 (wrap64 (x5 + 1))) else (some (0, 0, false))))) else (if x5 = (x0.size : Int) then ((spec_l2Make.f k (wrap64 ((wrap64 (x4 * x7)) + x6)) x7).bind fun bt399 => (some (bt399.1, bt399.2.1, bt399.2.2))) else (some (0, 0, false)))
def spec_DecimalOf.l0 : Nat → ByteArray → Int → Int → Int → Int → Int → Option (Int × Int × Bool)
 | 0, _, _, _, _, _, _ => none
 | k + 1, x0, x4, x7, x8, x9, x10 => if x10 < x9 then (spec_DecimalOf.l0 k x0 x4 (wrap64 (10 * x7)) x8 x9 (wrap64 (x10 + 1))) else (if x9 = (x0.size : Int) then ((spec_l2Make.f k (wrap64 ((wrap64 (x4 * x7)) + x8)) x7).bind fun bt396 => (some (bt396.1, bt396.2.1, bt396.2.2))) else (some (0, 0, false)))
end
def spec_DecimalOf.f (k : Nat) (a0 : ByteArray) : Option (Int × Int × Bool) := (spec_l2Digits.f k a0 0 10).bind fun bt391 => (if bt391.2 = 0 then (some (0, 0, false)) else (if bt391.2 < (a0.size : Int) then (if 0 ≤ bt391.2 then (spec_DecimalOf.j0 k a0 bt391.1 bt391.2 0 1 ((bt a0 bt391.2) == 46)) else (none)) else (spec_DecimalOf.j0 k a0 bt391.1 bt391.2 0 1 false)))
theorem spec_DecimalOf.mono_l : ∀ k, (∀ y0 y1 y2 y3 y4 y5, LeO (spec_DecimalOf.j0 k y0 y1 y2 y3 y4 y5) (spec_DecimalOf.j0 (k + 1) y0 y1 y2 y3 y4 y5)) ∧ (∀ y0 y1 y2 y3 y4 y5, LeO (spec_DecimalOf.l0 k y0 y1 y2 y3 y4 y5) (spec_DecimalOf.l0 (k + 1) y0 y1 y2 y3 y4 y5))
 | 0 => ⟨fun _ _ _ _ _ _ r h => by simp [spec_DecimalOf.j0] at h, fun _ _ _ _ _ _ r h => by simp [spec_DecimalOf.l0] at h⟩
 | k + 1 => by
  obtain ⟨ih0, ih1⟩ := spec_DecimalOf.mono_l k
  refine ⟨?_, ?_⟩
  ·intro y0 y1 y2 y3 y4 y5
   unfold spec_DecimalOf.j0
   repeat' first
   | (with_reducible exact ih0 _ _ _ _ _ _)
   | (with_reducible exact ih1 _ _ _ _ _ _)
   | (with_reducible exact spec_l2Digits.mono _ _ _ _)
   | (with_reducible exact spec_l2Make.mono _ _ _)
   | (with_reducible exact LeO.refl _)
   | (with_reducible exact LeO.none _)
   | (with_reducible refine LeO.ite ?_ ?_)
   | (with_reducible refine LeO.bind ?_ (fun _ => ?_))
   | exact ih0 _ _ _ _ _ _
   | exact ih1 _ _ _ _ _ _
   | exact spec_l2Digits.mono _ _ _ _
   | exact spec_l2Make.mono _ _ _
   | exact LeO.none _
   | refine LeO.ite ?_ ?_
   | refine LeO.bind ?_ (fun _ => ?_)
  ·intro y0 y1 y2 y3 y4 y5
   unfold spec_DecimalOf.l0
   repeat' first
   | (with_reducible exact ih0 _ _ _ _ _ _)
   | (with_reducible exact ih1 _ _ _ _ _ _)
   | (with_reducible exact spec_l2Digits.mono _ _ _ _)
   | (with_reducible exact spec_l2Make.mono _ _ _)
   | (with_reducible exact LeO.refl _)
   | (with_reducible exact LeO.none _)
   | (with_reducible refine LeO.ite ?_ ?_)
   | (with_reducible refine LeO.bind ?_ (fun _ => ?_))
   | exact ih0 _ _ _ _ _ _
   | exact ih1 _ _ _ _ _ _
   | exact spec_l2Digits.mono _ _ _ _
   | exact spec_l2Make.mono _ _ _
   | exact LeO.none _
   | refine LeO.ite ?_ ?_
   | refine LeO.bind ?_ (fun _ => ?_)
theorem spec_DecimalOf.mono : ∀ a0 k, LeO (spec_DecimalOf.f k a0) (spec_DecimalOf.f (k + 1) a0) := by
 intro a0 k
 obtain ⟨ih0, ih1⟩ := spec_DecimalOf.mono_l k
 unfold spec_DecimalOf.f
 repeat' first
   | (with_reducible exact ih0 _ _ _ _ _ _)
   | (with_reducible exact ih1 _ _ _ _ _ _)
   | (with_reducible exact spec_l2Digits.mono _ _ _ _)
   | (with_reducible exact spec_l2Make.mono _ _ _)
   | (with_reducible exact LeO.refl _)
   | (with_reducible exact LeO.none _)
   | (with_reducible refine LeO.ite ?_ ?_)
   | (with_reducible refine LeO.bind ?_ (fun _ => ?_))
   | exact ih0 _ _ _ _ _ _
   | exact ih1 _ _ _ _ _ _
   | exact spec_l2Digits.mono _ _ _ _
   | exact spec_l2Make.mono _ _ _
   | exact LeO.none _
   | refine LeO.ite ?_ ?_
   | refine LeO.bind ?_ (fun _ => ?_)
set_option maxHeartbeats 8000000 in
set_option maxRecDepth 100000 in
theorem spec_DecimalOf.calls (k : Nat) (a0 : ByteArray) (r1 : Int) (r2 : Int) (r3 : Bool) (w : World) (h : spec_DecimalOf.f k a0 = some (r1, r2, r3)) :
  Calls Tryz.prog 54 #[.string a0] w fun e w' => e = .returned (.tuple #[.agg #[.int .i64 r1, .int .i64 r2], .bool r3]) ∧ Below w.heap.size w w' := by
 have hu49 := Tryz.underlying49
 have HB := Aside0.mk (Below.refl w.heap.size w)
 have H : ((spec_l2Digits.f k a0 0 10).bind fun bt391 => (if bt391.2 = 0 then (some (0, 0, false)) else (if bt391.2 < (a0.size : Int) then (if 0 ≤ bt391.2 then (spec_DecimalOf.j0 k a0 bt391.1 bt391.2 0 1 ((bt a0 bt391.2) == 46)) else (none)) else (spec_DecimalOf.j0 k a0 bt391.1 bt391.2 0 1 false)))) = some (r1, r2, r3) := h
 clear h
 replace H := Option.bind_eq_some_iff.mp H
 obtain ⟨⟨t391, t392⟩, A20, H⟩ := H
 try dsimp only at H
 have A2 := Aside0.mk A20
 clear A20
 by_cases c3 : t392 = 0
 ·rw [if_pos c3] at H
  have c3b0 : (t392 == 0) = true := beq_iff_eq.mpr c3
  have c3b1 : (t392 != 0) = false := bne_eq_false_iff_eq.mpr c3
  clear c3
  simp only [Option.some.injEq, Prod.mk.injEq] at H
  obtain ⟨rfl, rfl, rfl⟩ := H
  go_enter Tryz.func54, Tryz.ntmps54
  go_wp2_with (first | ((with_reducible refine gate_dst (N := 2) rfl ?_); refine box_event ?hg (N := 2) ?hd (cs := #[.int .i64 0, .int .i64 0]) (t := 49) ?hr ?_; (case hd => rfl); (case hg => rfl); (case hr => first | (go_simp; done) | (go_simp; rfl)); intro gb390 hg w4 hbox hb; have n0_ := Aside0.mk (below_step (zz15_0_ HB.out) hb); have n1_ := Aside0.mk (hbox); have n2_ := Aside0.mk ((by rw [hg]; exact (below_size (zz15_0_ HB.out)) : w.heap.size ≤ gb390)); have n3_ := Aside0.mk ((by rw [hg]; exact (below_size (zz15_0_ HB.out)) : w.heap.size ≤ gb390)); clear HB; have HB := n0_; have BK390 := n1_; have GW390 := n2_; have GE390 := n3_; clear n0_ n1_ n2_ n3_; clear hb hbox hg) | ((with_reducible refine gate_callee (f := 55) rfl ?_); refine goesL_ (some 13) rfl rfl Tryz.func55 (by kernel_rfl) rfl #[.string a0, .int .i64 0, .int .i64 10] rfl (zz15_1_) ?_; (with_reducible refine (spec_l2Digits.calls k a0 0 10 t391 t392 _ A2.out).mono ?_); rintro e w' ⟨rfl, ⟨nd, rfl⟩⟩; refine ⟨_, rfl, ?_⟩; (try (rw [drewN_self w4]; generalize hq_ : World.drewN w4 _ = w4; have n0_ : Aside0 (w4.heap[gb390]? = some (.cells #[.int .i64 0, .int .i64 0] 49 (0, 0))) := ⟨by rw [← hq_]; exact (zz15_2_ BK390.out)⟩; have n1_ : Aside0 (Below w.heap.size w w4) := ⟨by rw [← hq_]; exact (zz15_3_ HB.out GE390.out)⟩; clear BK390 HB hq_; have BK390 := n0_; have HB := n1_; clear n0_ n1_)); have hcz5_0 : w4.cell? ⟨gb390, 0, none⟩ = some (.int .i64 0) := (blk_cell BK390.out 0).trans rfl; have hcz5_1 : w4.cell? ⟨gb390, 1, none⟩ = some (.int .i64 0) := (blk_cell BK390.out 1).trans rfl; have hfz5_0 := blk_frozen BK390.out 0; have hfz5_1 := blk_frozen BK390.out 1))
  refine bodyPost_ret (results_ct rfl _ _ gb390 49 #[.int .i64 0, .int .i64 0] (0, 0) _ rfl (zz15_4_ BK390.out) Tryz.underlying49 rfl (by kernel_rfl)) rfl ?_
  exact ⟨by first | rfl | (simp [errW_none, errW_some] <;> rfl) | (simp [*, errW_none, errW_some] <;> rfl), zz15_3_ HB.out GE390.out⟩
 ·rw [if_neg c3] at H
  have c3b0 : (t392 == 0) = false := beq_eq_false_iff_ne.mpr c3
  have c3b1 : (t392 != 0) = true := bne_iff_ne.mpr c3
  have HC6 := Aside0.mk H
  clear H
  go_enter Tryz.func54, Tryz.ntmps54
  go_upto_region 6 with (first | ((with_reducible refine gate_dst (N := 2) rfl ?_); refine box_event ?hg (N := 2) ?hd (cs := #[.int .i64 0, .int .i64 0]) (t := 49) ?hr ?_; (case hd => rfl); (case hg => rfl); (case hr => first | (go_simp; done) | (go_simp; rfl)); intro gb390 hg w7 hbox hb; have n0_ := Aside0.mk (below_step (zz15_0_ HB.out) hb); have n1_ := Aside0.mk (hbox); have n2_ := Aside0.mk ((by rw [hg]; exact (below_size (zz15_0_ HB.out)) : w.heap.size ≤ gb390)); have n3_ := Aside0.mk ((by rw [hg]; exact (below_size (zz15_0_ HB.out)) : w.heap.size ≤ gb390)); clear HB; have HB := n0_; have BK390 := n1_; have GW390 := n2_; have GE390 := n3_; clear n0_ n1_ n2_ n3_; clear hb hbox hg) | ((with_reducible refine gate_callee (f := 55) rfl ?_); refine goesL_ (some 13) rfl rfl Tryz.func55 (by kernel_rfl) rfl #[.string a0, .int .i64 0, .int .i64 10] rfl (zz15_1_) ?_; (with_reducible refine (spec_l2Digits.calls k a0 0 10 t391 t392 _ A2.out).mono ?_); rintro e w' ⟨rfl, ⟨nd, rfl⟩⟩; refine ⟨_, rfl, ?_⟩))
  (try simp only [Act.put, List.setIfInBounds_toArray, List.set_cons_zero, List.set_cons_succ])
  go_cut [28] (fun v28 wc => ∃ (kq : Nat) (x28_5 : Bool), v28 = .bool x28_5 ∧ Aside0 (spec_DecimalOf.j0 kq a0 t391 t392 0 1 x28_5 = some (r1, r2, r3)) ∧ Aside0 (kq ≤ k) ∧ Aside0 (wc.heap[gb390]? = some (.cells #[.int .i64 0, .int .i64 0] 49 (0, 0))) ∧ Aside0 (Below w.heap.size w wc))
  case first =>
   have H := HC6.out
   clear HC6
   by_cases c8 : t392 < (a0.size : Int)
   ·rw [if_pos c8] at H
    have c8b0 : decide (t392 < (a0.size : Int)) = true := decide_eq_true c8
    clear c8
    (first | rw [c8b0] | (simp only [i64_w, i32_w]; rw [c8b0]) | skip)
    by_cases c9 : 0 ≤ t392
    ·rw [if_pos c9] at H
     have c9b0 : decide (0 ≤ t392) = true := decide_eq_true c9
     clear c9
     have H' := Aside0.mk H
     clear H
     have p10 : 0 ≤ (t392 : Int) := of_decide_eq_true (by first | (with_reducible assumption) | assumption)
     have q10 : t392 < (a0.size : Int) := of_decide_eq_true (by first | (with_reducible assumption) | assumption)
     have hx10 := bt_at a0 t392
     replace p10 := eq_true p10
     replace q10 := eq_true q10
     go_wp2
     go_meet
     case rel => exact ⟨_, (((bt a0 t392) == 46)), (by first | rfl | (simp; done) | (simp [*]; done)), H', ⟨by first | omega | exact Nat.le_refl _⟩, ⟨zz15_2_ BK390.out⟩, ⟨zz15_3_ HB.out GE390.out⟩⟩
    ·rw [if_neg c9] at H
     exact absurd H (by simp)
   ·rw [if_neg c8] at H
    have c8b0 : decide (t392 < (a0.size : Int)) = false := decide_eq_false c8
    clear c8
    (first | rw [c8b0] | (simp only [i64_w, i32_w]; rw [c8b0]) | skip)
    have H' := Aside0.mk H
    clear H
    go_wp2
    go_meet
    case rel => exact ⟨_, (false), (by first | rfl | (simp; done) | (simp [*]; done)), H', ⟨by first | omega | exact Nat.le_refl _⟩, ⟨zz15_2_ BK390.out⟩, ⟨zz15_3_ HB.out GE390.out⟩⟩
  case rest =>
   clear HC6
   try clear p1
   try clear q1
   try clear hx1
   try clear p2
   try clear c3
   try clear c3b0
   try clear c3b1
   try clear c5
   try clear c8
   try clear c8b0
   try clear c9
   try clear c9b0
   try clear p10
   try clear q10
   try clear hx10
   try clear hcz5_0
   try clear hcz5_1
   try clear hfz5_0
   try clear hfz5_1
   try clear p10
   try clear q10
   obtain ⟨kq, x28_5, rfl, HA, HJ5, BK390, HB⟩ := hcut
   cases kq with
   | zero => exact absurd HA.out (by simp [spec_DecimalOf.j0])
   | succ kj5 =>
    have H := HA.out
    clear HA
    simp only [spec_DecimalOf.j0] at H
    by_cases c11 : x28_5 = true
    ·subst c11
     rw [if_pos rfl] at H
     replace H := Option.bind_eq_some_iff.mp H
     obtain ⟨⟨t393, t394⟩, A120, H⟩ := H
     try dsimp only at H
     have A12 := Aside0.mk A120
     clear A120
     replace H := Option.bind_eq_some_iff.mp H
     obtain ⟨t395, A130, H⟩ := H
     try dsimp only at H
     have A13 := Aside0.mk A130
     clear A130
     by_cases c14 : t395 = true
     ·subst c14
      rw [if_pos rfl] at H
      have H' := Aside0.mk H
      clear H
      go_wp2_with (first | ((with_reducible refine gate_callee (f := 55) rfl ?_); refine goesL_ (some 33) rfl rfl Tryz.func55 (by kernel_rfl) rfl #[.string a0, .int .i64 (wrap64 (t392 + 1)), .int .i64 7] rfl (zz15_1_) ?_; (with_reducible refine (spec_l2Digits.calls kj5 a0 (wrap64 (t392 + 1)) 7 t393 t394 _ A12.out).mono ?_); rintro e w' ⟨rfl, ⟨nd, rfl⟩⟩; refine ⟨_, rfl, ?_⟩) | ((with_reducible refine gate_callee (f := 21) rfl ?_); refine goesL_ (some 40) rfl rfl Tryz.func21 (by kernel_rfl) rfl #[.int .i64 (wrap64 ((wrap64 (t394 - t392)) - 1)), .int .i64 1, .int .i64 6] rfl (zz15_1_) ?_; (with_reducible refine (spec_l1In.calls (wrap64 ((wrap64 (t394 - t392)) - 1)) 1 6 true _ A13.out).mono ?_); rintro e w' ⟨rfl, ⟨nd, rfl⟩⟩; refine ⟨_, rfl, ?_⟩))
      go_loopg [7, 10] kj5 (fun kq v7 v10 w' => ∃ (x7_2 : Int) (x10_2 : Int), v7 = .int .i64 x7_2 ∧ v10 = .int .i64 x10_2 ∧ Aside0 (spec_DecimalOf.l0 kq a0 t391 x7_2 t393 t394 x10_2 = some (r1, r2, r3)) ∧ Aside0 (kq ≤ kj5) ∧ Aside0 (w'.heap[gb390]? = some (.cells #[.int .i64 0, .int .i64 0] 49 (0, 0))) ∧ Aside0 (Below w.heap.size w w'))
      case atStart => exact ⟨(1), (wrap64 (t392 + 1)), (by first | rfl | (simp; done) | (simp [*]; done)), (by first | rfl | (simp; done) | (simp [*]; done)), H', ⟨Nat.le_refl _⟩, ⟨zz15_2_ BK390.out⟩, ⟨zz15_3_ HB.out GE390.out⟩⟩
      case round =>
       clear H'
       try clear c1
       try clear p1
       try clear q1
       try clear hx1
       try clear c2
       try clear p2
       try clear c3
       try clear c3b0
       try clear c3b1
       try clear c5
       try clear p6
       try clear c8
       try clear c8b0
       try clear c9
       try clear c9b0
       try clear p10
       try clear q10
       try clear hx10
       try clear c11
       try clear c14
       try clear hcz5_0
       try clear hcz5_1
       try clear hfz5_0
       try clear hfz5_1
       try clear p1
       try clear p10
       try clear p2
       try clear q1
       try clear q10
       obtain ⟨x7_2, x10_2, rfl, rfl, HA, HK2, BK390, HB⟩ := hrel
       cases gk with
       | zero => exact absurd HA.out (by simp [spec_DecimalOf.l0])
       | succ k2 =>
        have H := HA.out
        clear HA
        simp only [spec_DecimalOf.l0] at H
        by_cases c15 : x10_2 < t394
        ·rw [if_pos c15] at H
         have c15b0 : decide (x10_2 < t394) = true := decide_eq_true c15
         clear c15
         have H' := Aside0.mk H
         clear H
         go_wp2
         go_roundg k2
         case measure => have := HJ5.out; have := HK2.out; omega
         case rel => exact ⟨(wrap64 (10 * x7_2)), (wrap64 (x10_2 + 1)), (by first | rfl | (simp; done) | (simp [*]; done)), (by first | rfl | (simp; done) | (simp [*]; done)), H', ⟨by have := HJ5.out; have := HK2.out; omega⟩, ⟨zz15_2_ BK390.out⟩, ⟨zz15_3_ HB.out GE390.out⟩⟩
        ·rw [if_neg c15] at H
         have c15b0 : decide (x10_2 < t394) = false := decide_eq_false c15
         clear c15
         by_cases c16 : t394 = (a0.size : Int)
         ·rw [if_pos c16] at H
          have c16b0 : (t394 == (a0.size : Int)) = true := beq_iff_eq.mpr c16
          have c16b1 : (t394 != (a0.size : Int)) = false := bne_eq_false_iff_eq.mpr c16
          clear c16
          replace H := Option.bind_eq_some_iff.mp H
          obtain ⟨⟨t396, t397, t398⟩, A170, H⟩ := H
          try dsimp only at H
          have A17 := Aside0.mk A170
          clear A170
          simp only [Option.some.injEq, Prod.mk.injEq] at H
          obtain ⟨rfl, rfl, rfl⟩ := H
          go_wp2_with (first | ((with_reducible refine gate_callee (f := 70) rfl ?_); refine goesL_ (some 65) rfl rfl Tryz.func70 (by kernel_rfl) rfl #[.int .i64 (wrap64 ((wrap64 (t391 * x7_2)) + t393)), .int .i64 x7_2] rfl (zz15_1_) ?_; (with_reducible refine (spec_l2Make.calls k2 (wrap64 ((wrap64 (t391 * x7_2)) + t393)) x7_2 t396 t397 t398 _ A17.out).mono ?_); rintro e w18 ⟨rfl, hb⟩; refine ⟨_, rfl, ?_⟩; have n0_ := Aside0.mk (blk_below (g := gb390) (o := .cells #[.int .i64 0, .int .i64 0] 49 (0, 0)) (zz15_2_ BK390.out) hb); have n1_ := Aside0.mk (below_step (zz15_3_ HB.out GE390.out) hb); clear BK390; clear HB; have BK390 := n0_; have HB := n1_; clear n0_ n1_; (try clear hb); (try clear hb2); (try clear hk); (try clear hi); have hcz19_0 : w18.cell? ⟨gb390, 0, none⟩ = some (.int .i64 0) := (blk_cell BK390.out 0).trans rfl; have hcz19_1 : w18.cell? ⟨gb390, 1, none⟩ = some (.int .i64 0) := (blk_cell BK390.out 1).trans rfl; have hfz19_0 := blk_frozen BK390.out 0; have hfz19_1 := blk_frozen BK390.out 1))
          refine bodyPost_ret (results_ct rfl _ _ gb390 49 #[.int .i64 t396, .int .i64 t397] (0, 0) _ rfl (by (with_reducible repeat (first | refine blk_drewN ?_ _ | refine blk_drew ?_ | refine blk_alloc ?_ _)); refine blk_put (cs := #[.int .i64 t396, .int .i64 0]) ?_ 1 _ rfl; (with_reducible repeat (first | refine blk_drewN ?_ _ | refine blk_drew ?_ | refine blk_alloc ?_ _)); refine blk_put (cs := #[.int .i64 0, .int .i64 0]) ?_ 0 _ rfl; (with_reducible repeat (first | refine blk_drewN ?_ _ | refine blk_drew ?_ | refine blk_alloc ?_ _)); exact BK390.out) Tryz.underlying49 rfl (by kernel_rfl)) rfl ?_
          exact ⟨by first | rfl | (simp [errW_none, errW_some] <;> rfl) | (simp [*, errW_none, errW_some] <;> rfl), zz15_3_ HB.out GE390.out⟩
         ·rw [if_neg c16] at H
          have c16b0 : (t394 == (a0.size : Int)) = false := beq_eq_false_iff_ne.mpr c16
          have c16b1 : (t394 != (a0.size : Int)) = true := bne_iff_ne.mpr c16
          simp only [Option.some.injEq, Prod.mk.injEq] at H
          obtain ⟨rfl, rfl, rfl⟩ := H
          have hcz20_0 : wr.cell? ⟨gb390, 0, none⟩ = some (.int .i64 0) := (blk_cell BK390.out 0).trans rfl
          have hcz20_1 : wr.cell? ⟨gb390, 1, none⟩ = some (.int .i64 0) := (blk_cell BK390.out 1).trans rfl
          have hfz20_0 := blk_frozen BK390.out 0
          have hfz20_1 := blk_frozen BK390.out 1
          go_wp2
          refine bodyPost_ret (results_ct rfl _ _ gb390 49 #[.int .i64 0, .int .i64 0] (0, 0) _ rfl (zz15_4_ BK390.out) Tryz.underlying49 rfl (by kernel_rfl)) rfl ?_
          exact ⟨by first | rfl | (simp [errW_none, errW_some] <;> rfl) | (simp [*, errW_none, errW_some] <;> rfl), zz15_3_ HB.out GE390.out⟩
     ·replace c14 := Bool.eq_false_iff.mpr c14
      subst c14
      rw [if_neg (show ¬ (false = true) by decide)] at H
      simp only [Option.some.injEq, Prod.mk.injEq] at H
      obtain ⟨rfl, rfl, rfl⟩ := H
      go_wp2_with (first | ((with_reducible refine gate_callee (f := 55) rfl ?_); refine goesL_ (some 33) rfl rfl Tryz.func55 (by kernel_rfl) rfl #[.string a0, .int .i64 (wrap64 (t392 + 1)), .int .i64 7] rfl (zz15_1_) ?_; (with_reducible refine (spec_l2Digits.calls kj5 a0 (wrap64 (t392 + 1)) 7 t393 t394 _ A12.out).mono ?_); rintro e w' ⟨rfl, ⟨nd, rfl⟩⟩; refine ⟨_, rfl, ?_⟩; (try (rw [drewN_self wc]; generalize hq_ : World.drewN wc _ = wc; have n0_ : Aside0 (wc.heap[gb390]? = some (.cells #[.int .i64 0, .int .i64 0] 49 (0, 0))) := ⟨by rw [← hq_]; exact (zz15_2_ BK390.out)⟩; have n1_ : Aside0 (Below w.heap.size w wc) := ⟨by rw [← hq_]; exact (zz15_3_ HB.out GE390.out)⟩; clear BK390 HB hq_; have BK390 := n0_; have HB := n1_; clear n0_ n1_; (try have hcz20_0 : wr.cell? ⟨gb390, 0, none⟩ = some (.int .i64 0) := (blk_cell BK390.out 0).trans rfl); (try have hcz20_1 : wr.cell? ⟨gb390, 1, none⟩ = some (.int .i64 0) := (blk_cell BK390.out 1).trans rfl); (try have hfz20_0 := blk_frozen BK390.out 0); (try have hfz20_1 := blk_frozen BK390.out 1)))) | ((with_reducible refine gate_callee (f := 21) rfl ?_); refine goesL_ (some 40) rfl rfl Tryz.func21 (by kernel_rfl) rfl #[.int .i64 (wrap64 ((wrap64 (t394 - t392)) - 1)), .int .i64 1, .int .i64 6] rfl (zz15_1_) ?_; (with_reducible refine (spec_l1In.calls (wrap64 ((wrap64 (t394 - t392)) - 1)) 1 6 false _ A13.out).mono ?_); rintro e w' ⟨rfl, ⟨nd, rfl⟩⟩; refine ⟨_, rfl, ?_⟩; (try (rw [drewN_self wc]; generalize hq_ : World.drewN wc _ = wc; have n0_ : Aside0 (wc.heap[gb390]? = some (.cells #[.int .i64 0, .int .i64 0] 49 (0, 0))) := ⟨by rw [← hq_]; exact (zz15_2_ BK390.out)⟩; have n1_ : Aside0 (Below w.heap.size w wc) := ⟨by rw [← hq_]; exact (zz15_3_ HB.out GE390.out)⟩; clear BK390 HB hq_; have BK390 := n0_; have HB := n1_; clear n0_ n1_; (try have hcz20_0 : wr.cell? ⟨gb390, 0, none⟩ = some (.int .i64 0) := (blk_cell BK390.out 0).trans rfl); (try have hcz20_1 : wr.cell? ⟨gb390, 1, none⟩ = some (.int .i64 0) := (blk_cell BK390.out 1).trans rfl); (try have hfz20_0 := blk_frozen BK390.out 0); (try have hfz20_1 := blk_frozen BK390.out 1))); have hcz21_0 : wc.cell? ⟨gb390, 0, none⟩ = some (.int .i64 0) := (blk_cell BK390.out 0).trans rfl; have hcz21_1 : wc.cell? ⟨gb390, 1, none⟩ = some (.int .i64 0) := (blk_cell BK390.out 1).trans rfl; have hfz21_0 := blk_frozen BK390.out 0; have hfz21_1 := blk_frozen BK390.out 1))
      refine bodyPost_ret (results_ct rfl _ _ gb390 49 #[.int .i64 0, .int .i64 0] (0, 0) _ rfl (zz15_4_ BK390.out) Tryz.underlying49 rfl (by kernel_rfl)) rfl ?_
      exact ⟨by first | rfl | (simp [errW_none, errW_some] <;> rfl) | (simp [*, errW_none, errW_some] <;> rfl), zz15_3_ HB.out GE390.out⟩
    ·replace c11 := Bool.eq_false_iff.mpr c11
     subst c11
     rw [if_neg (show ¬ (false = true) by decide)] at H
     by_cases c22 : t392 = (a0.size : Int)
     ·rw [if_pos c22] at H
      have c22b0 : (t392 == (a0.size : Int)) = true := beq_iff_eq.mpr c22
      have c22b1 : (t392 != (a0.size : Int)) = false := bne_eq_false_iff_eq.mpr c22
      clear c22
      replace H := Option.bind_eq_some_iff.mp H
      obtain ⟨⟨t399, t400, t401⟩, A230, H⟩ := H
      try dsimp only at H
      have A23 := Aside0.mk A230
      clear A230
      simp only [Option.some.injEq, Prod.mk.injEq] at H
      obtain ⟨rfl, rfl, rfl⟩ := H
      have e1_ : wrap64 ((wrap64 (t391 * 1)) + 0) = wrap64 (wrap64 t391) := by rw [Int.mul_one, Int.add_zero]
      have n0_ := Aside0.mk (e1_ ▸ A23.out)
      clear A23 e1_
      have A23 := n0_
      clear n0_
      go_wp2_with (first | ((with_reducible refine gate_callee (f := 70) rfl ?_); refine goesL_ (some 65) rfl rfl Tryz.func70 (by kernel_rfl) rfl #[.int .i64 (wrap64 (wrap64 t391)), .int .i64 1] rfl (zz15_1_) ?_; (with_reducible refine (spec_l2Make.calls kj5 (wrap64 (wrap64 t391)) 1 t399 t400 t401 _ A23.out).mono ?_); rintro e w24 ⟨rfl, hb⟩; refine ⟨_, rfl, ?_⟩; have n0_ := Aside0.mk (blk_below (g := gb390) (o := .cells #[.int .i64 0, .int .i64 0] 49 (0, 0)) (zz15_2_ BK390.out) hb); have n1_ := Aside0.mk (below_step (zz15_3_ HB.out GE390.out) hb); clear BK390; clear HB; have BK390 := n0_; have HB := n1_; clear n0_ n1_; (try clear hb); (try clear hb2); (try clear hk); (try clear hi); have hcz25_0 : w24.cell? ⟨gb390, 0, none⟩ = some (.int .i64 0) := (blk_cell BK390.out 0).trans rfl; have hcz25_1 : w24.cell? ⟨gb390, 1, none⟩ = some (.int .i64 0) := (blk_cell BK390.out 1).trans rfl; have hfz25_0 := blk_frozen BK390.out 0; have hfz25_1 := blk_frozen BK390.out 1))
      refine bodyPost_ret (results_ct rfl _ _ gb390 49 #[.int .i64 t399, .int .i64 t400] (0, 0) _ rfl (by (with_reducible repeat (first | refine blk_drewN ?_ _ | refine blk_drew ?_ | refine blk_alloc ?_ _)); refine blk_put (cs := #[.int .i64 t399, .int .i64 0]) ?_ 1 _ rfl; (with_reducible repeat (first | refine blk_drewN ?_ _ | refine blk_drew ?_ | refine blk_alloc ?_ _)); refine blk_put (cs := #[.int .i64 0, .int .i64 0]) ?_ 0 _ rfl; (with_reducible repeat (first | refine blk_drewN ?_ _ | refine blk_drew ?_ | refine blk_alloc ?_ _)); exact BK390.out) Tryz.underlying49 rfl (by kernel_rfl)) rfl ?_
      exact ⟨by first | rfl | (simp [errW_none, errW_some] <;> rfl) | (simp [*, errW_none, errW_some] <;> rfl), zz15_3_ HB.out GE390.out⟩
     ·rw [if_neg c22] at H
      have c22b0 : (t392 == (a0.size : Int)) = false := beq_eq_false_iff_ne.mpr c22
      have c22b1 : (t392 != (a0.size : Int)) = true := bne_iff_ne.mpr c22
      simp only [Option.some.injEq, Prod.mk.injEq] at H
      obtain ⟨rfl, rfl, rfl⟩ := H
      have hcz26_0 : wc.cell? ⟨gb390, 0, none⟩ = some (.int .i64 0) := (blk_cell BK390.out 0).trans rfl
      have hcz26_1 : wc.cell? ⟨gb390, 1, none⟩ = some (.int .i64 0) := (blk_cell BK390.out 1).trans rfl
      have hfz26_0 := blk_frozen BK390.out 0
      have hfz26_1 := blk_frozen BK390.out 1
      go_wp2
      refine bodyPost_ret (results_ct rfl _ _ gb390 49 #[.int .i64 0, .int .i64 0] (0, 0) _ rfl (zz15_4_ BK390.out) Tryz.underlying49 rfl (by kernel_rfl)) rfl ?_
      exact ⟨by first | rfl | (simp [errW_none, errW_some] <;> rfl) | (simp [*, errW_none, errW_some] <;> rfl), zz15_3_ HB.out GE390.out⟩

/-! ### spec_l2Number: function 72 -/
def spec_l2Number.l0 : Nat → Int → ByteArray → Option (ByteArray)
 | 0, _, _ => none
 | k + 1, x0, x3 => if x0 > 9 then ((some (([(wrap64 (48 + (Int.tmod (wrap64 (Int.tdiv x0 10)) 10))) % 256] : List Int) : List Int)).bind fun y405 => (if (strOfNums y405).size + x3.size ≤ 9223372036854775807 then (spec_l2Number.l0 k (wrap64 (Int.tdiv x0 10)) ((strOfNums y405) ++ x3)) else (none))) else (some x3)
def spec_l2Number.f (k : Nat) (a0 : Int) : Option (ByteArray) := spec_l2Number.l0 k a0 (strOfNums (([(wrap64 (48 + (Int.tmod a0 10))) % 256] : List Int)))
theorem spec_l2Number.mono_l : ∀ k, (∀ y0 y1, LeO (spec_l2Number.l0 k y0 y1) (spec_l2Number.l0 (k + 1) y0 y1))
 | 0 => fun _ _ r h => by simp [spec_l2Number.l0] at h
 | k + 1 => by
  have ih0 := spec_l2Number.mono_l k
  ·intro y0 y1
   unfold spec_l2Number.l0
   repeat' first
   | (with_reducible exact ih0 _ _)
   | (with_reducible exact LeO.refl _)
   | (with_reducible exact LeO.none _)
   | (with_reducible refine LeO.ite ?_ ?_)
   | (with_reducible refine LeO.bind ?_ (fun _ => ?_))
   | exact ih0 _ _
   | exact LeO.none _
   | refine LeO.ite ?_ ?_
   | refine LeO.bind ?_ (fun _ => ?_)
theorem spec_l2Number.mono : ∀ a0 k, LeO (spec_l2Number.f k a0) (spec_l2Number.f (k + 1) a0) := by
 intro a0 k
 have ih0 := spec_l2Number.mono_l k
 unfold spec_l2Number.f
 repeat' first
   | (with_reducible exact ih0 _ _)
   | (with_reducible exact LeO.refl _)
   | (with_reducible exact LeO.none _)
   | (with_reducible refine LeO.ite ?_ ?_)
   | (with_reducible refine LeO.bind ?_ (fun _ => ?_))
   | exact ih0 _ _
   | exact LeO.none _
   | refine LeO.ite ?_ ?_
   | refine LeO.bind ?_ (fun _ => ?_)
set_option maxHeartbeats 8000000 in
set_option maxRecDepth 100000 in
theorem spec_l2Number.calls (k : Nat) (a0 : Int) (r : ByteArray) (w : World) (h : spec_l2Number.f k a0 = some r) :
  Calls Tryz.prog 72 #[.int .i64 a0] w fun e w' => e = .returned (.string r) ∧ Below w.heap.size w w' := by
 have HB := Aside0.mk (Below.refl w.heap.size w)
 have H : (spec_l2Number.l0 k a0 (strOfNums (([(wrap64 (48 + (Int.tmod a0 10))) % 256] : List Int)))) = some r := h
 clear h
 obtain ⟨y402, hy402⟩ : ∃ y_ : List Int, y_ = (([(wrap64 (48 + (Int.tmod a0 10))) % 256] : List Int)) := ⟨_, rfl⟩
 replace H : (spec_l2Number.l0 k a0 (strOfNums y402)) = some r := by first | (rw [hy402]; with_reducible exact H) | (have H2_ := (Option.bind_some _ _).symm.trans H; rw [hy402]; with_reducible exact H2_) | (have H2_ := (Option.bind_some _ _).symm.trans H; with_reducible exact H2_) | with_reducible exact H | (rw [hy402]; exact H) | exact H
 have Ny402 := Aside0.mk hy402
 clear hy402
 have H' := Aside0.mk H
 clear H
 go_enter Tryz.func72, Tryz.ntmps72
 go_wp2_with (first | ((with_reducible refine gate_dst (N := 8) rfl ?_); refine Kd.R_lit (Kd.int .u8) _ 5 ?hg (N := 8) ?hd (xs := ([(wrap64 (48 + (Int.tmod a0 10))) % 256] : List Int)) (inner := [.int .u8 ((wrap64 (48 + (Int.tmod a0 10))) % 256)]) (ok := fun _ => True) (okp := fun _ => True) ?hr ?hp (fun _ hk => hk) trivial (Below.refl _ _) (Nat.le_refl _) (by simp) ?_; (case hd => rfl); (case hg => rfl); (case hr => first | (go_simp; done) | (go_simp; rfl)); (case hp => exact (Reps.one (show Kd.M (Kd.int .u8) _ _ _ ((wrap64 (48 + (Int.tmod a0 10))) % 256) [.int .u8 ((wrap64 (48 + (Int.tmod a0 10))) % 256)] from rfl) (Reps.none _ _))); intro v403 w2 ho3 hb hg_ hnew_; clear hg_ hnew_; (first | rw [← Ny402.out] at ho3 | (simp only [Int.reduceToNat] at ho3; rw [← Ny402.out] at ho3)); have n0_ := Aside0.mk (Kd.R_lower ho3 (below_size (zz15_0_ HB.out))); have n1_ := Aside0.mk (below_step (zz15_0_ HB.out) hb); clear HB; have HO404 := n0_; have HB := n1_; clear n0_ n1_; clear hb ho3; have hcv4 := own_string (P := Tryz.prog) Tryz.underlying22 Tryz.underlying5 Tryz.underlying9 (Kd.own_of_R HO404.out)))
 go_loopg [0, 3] k (fun kq v0 v3 w' => ∃ (x0_1 : Int) (x3_1 : ByteArray), v0 = .int .i64 x0_1 ∧ v3 = .string x3_1 ∧ Aside0 (spec_l2Number.l0 kq x0_1 x3_1 = some r) ∧ Aside0 (kq ≤ k) ∧ Aside0 (Below w.heap.size w w'))
 case atStart => exact ⟨(a0), (strOfNums y402), (by first | rfl | (simp; done) | (simp [*]; done)), (by first | rfl | (simp; done) | (simp [*]; done)), H', ⟨Nat.le_refl _⟩, ⟨zz15_0_ HB.out⟩⟩
 case round =>
  clear H'
  try clear p2
  try clear hcv4
  obtain ⟨x0_1, x3_1, rfl, rfl, HA, HK1, HB⟩ := hrel
  cases gk with
  | zero => exact absurd HA.out (by simp [spec_l2Number.l0])
  | succ k1 =>
   have H := HA.out
   clear HA
   simp only [spec_l2Number.l0] at H
   by_cases c5 : x0_1 > 9
   ·rw [if_pos c5] at H
    have c5b0 : decide (9 < x0_1) = true := decide_eq_true c5
    clear c5
    obtain ⟨y405, hy405⟩ : ∃ y_ : List Int, y_ = (([(wrap64 (48 + (Int.tmod (wrap64 (Int.tdiv x0_1 10)) 10))) % 256] : List Int)) := ⟨_, rfl⟩
    replace H : (if (strOfNums y405).size + x3_1.size ≤ 9223372036854775807 then (spec_l2Number.l0 k1 (wrap64 (Int.tdiv x0_1 10)) ((strOfNums y405) ++ x3_1)) else (none)) = some r := by first | (rw [hy405]; with_reducible exact H) | (have H2_ := (Option.bind_some _ _).symm.trans H; rw [hy405]; with_reducible exact H2_) | (have H2_ := (Option.bind_some _ _).symm.trans H; with_reducible exact H2_) | with_reducible exact H | (rw [hy405]; exact H) | exact H
    have Ny405 := Aside0.mk hy405
    clear hy405
    by_cases c6 : (strOfNums y405).size + x3_1.size ≤ 9223372036854775807
    ·rw [if_pos c6] at H
     have c6b0 := eq_true c6
     have c6b1 : decide ((strOfNums y405).size + x3_1.size ≤ 9223372036854775807) = true := decide_eq_true c6
     try have c6b2 : (9223372036854775807 < (strOfNums y405).size + x3_1.size) = False := eq_false (Nat.not_lt.2 c6)
     have H' := Aside0.mk H
     clear H
     go_wp2_with (first | ((with_reducible refine gate_dst (N := 18) rfl ?_); refine Kd.R_lit (Kd.int .u8) _ 5 ?hg (N := 18) ?hd (xs := ([(wrap64 (48 + (Int.tmod (wrap64 (Int.tdiv x0_1 10)) 10))) % 256] : List Int)) (inner := [.int .u8 ((wrap64 (48 + (Int.tmod (wrap64 (Int.tdiv x0_1 10)) 10))) % 256)]) (ok := fun _ => True) (okp := fun _ => True) ?hr ?hp (fun _ hk => hk) trivial (Below.refl _ _) (Nat.le_refl _) (by simp) ?_; (case hd => rfl); (case hg => rfl); (case hr => first | (go_simp; done) | (go_simp; rfl)); (case hp => exact (Reps.one (show Kd.M (Kd.int .u8) _ _ _ ((wrap64 (48 + (Int.tmod (wrap64 (Int.tdiv x0_1 10)) 10))) % 256) [.int .u8 ((wrap64 (48 + (Int.tmod (wrap64 (Int.tdiv x0_1 10)) 10))) % 256)] from rfl) (Reps.none _ _))); intro v406 w7 ho8 hb hg_ hnew_; clear hg_ hnew_; (first | rw [← Ny405.out] at ho8 | (simp only [Int.reduceToNat] at ho8; rw [← Ny405.out] at ho8)); have n0_ := Aside0.mk (Kd.R_lower ho8 (below_size (zz15_0_ HB.out))); have n1_ := Aside0.mk (below_step (zz15_0_ HB.out) hb); clear HB; have HO407 := n0_; have HB := n1_; clear n0_ n1_; clear hb ho8; have hcv9 := own_string (P := Tryz.prog) Tryz.underlying22 Tryz.underlying5 Tryz.underlying9 (Kd.own_of_R HO407.out)))
     go_roundg k1
     case measure => have := HK1.out; omega
     case rel => exact ⟨(wrap64 (Int.tdiv x0_1 10)), ((strOfNums y405) ++ x3_1), (by first | rfl | (simp; done) | (simp [*]; done)), (by first | rfl | (simp; done) | (simp [*]; done)), H', ⟨by have := HK1.out; omega⟩, ⟨zz15_0_ HB.out⟩⟩
    ·rw [if_neg c6] at H
     exact absurd H (by simp)
   ·rw [if_neg c5] at H
    have c5b0 : decide (9 < x0_1) = false := decide_eq_false c5
    clear c5
    obtain rfl := Option.some.inj H
    go_wp2
    go_ret
    exact ⟨by first | rfl | (simp [errW_none, errW_some] <;> rfl) | (simp [*, errW_none, errW_some] <;> rfl), zz15_0_ HB.out⟩

end Go.Proofs.YtifeiepociopoaaGreatDoor.PEd
