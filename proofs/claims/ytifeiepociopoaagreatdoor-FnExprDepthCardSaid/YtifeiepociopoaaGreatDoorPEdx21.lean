-- Written for this session by its program hprint.py over the kit's print: functions, and contracts that the walk of the Go code proves.
import Derived.Test.YtifeiepociopoaaGreatDoorPEdx0
import Derived.Test.YtifeiepociopoaaGreatDoorPEdx1
import Derived.Test.YtifeiepociopoaaGreatDoorPEdx8
import Derived.Test.YtifeiepociopoaaGreatDoorPEdx13
import Derived.Test.YtifeiepociopoaaGreatDoorPEdx20
namespace Go.Proofs.YtifeiepociopoaaGreatDoor.PEd
open Go.RowKit Go.Proofs.YtifeiepociopoaaGreatDoor.Hand Go.Proofs.YtifeiepociopoaaGreatDoorW.PrintWords Go.Proofs.YtifeiepociopoaaGreatDoorW.PrintLast Go.Proofs.YtifeiepociopoaaGreatDoorW.PrintMore
attribute [local go_sem] max2_int min2_int max_two min_two max_three min_three max_four min_four   -- for this text's walks alone
set_option linter.unusedVariables false
set_option linter.unusedSimpArgs false

/-! ### spec_ExprValid: function 16 -/
theorem zz21_2_ {P1 Q : Prop} (h1 : P1) (f : P1 → Q := by intro zq1_; repeat (first | (with_reducible first | exact zq1_ | apply below_alloc | apply pw_below_drewN | apply below_drew1) | exact zq1_)) : Q := f h1
theorem zz21_0_ {Q : Prop} (f : Q := by first | (with_reducible assumption) | assumption) : Q := f
theorem zz21_1_ {Q : Prop} (f : Q := by (try simp only [List.map_toArray, List.map_cons, List.map_nil]); first | done | rfl | (simp only [List.length_drop, List.length_take]; rfl)) : Q := f
theorem zz21_3_ {P1 P2 Q : Prop} (h1 : P1) (h2 : P2) (f : P1 → P2 → Q := by intro zq1_ zq2_; repeat (first | exact (Kd.C_below zq1_ (by repeat (first | (with_reducible first | exact zq2_ | apply below_alloc | apply pw_below_drewN | apply below_drew1) | exact zq2_))) | (with_reducible refine Kd.C_alloc ?_ _) | (with_reducible refine Kd.C_drewN ?_ _) | (with_reducible refine Kd.C_drew ?_))) : Q := f h1 h2
theorem zz21_4_ {P1 P2 Q : Prop} (h1 : P1) (h2 : P2) (f : P1 → P2 → Q := by intro zq1_ zq2_; repeat (first | exact (Kd.C_below zq1_ zq2_) | (with_reducible refine Kd.C_alloc ?_ _) | (with_reducible refine Kd.C_drewN ?_ _) | (with_reducible refine Kd.C_drew ?_))) : Q := f h1 h2
def spec_ExprValid.l0 : Nat → List (S35) → Int → Option (Bool)
 | 0, _, _ => none
 | k + 1, x0, x3 => if x3 < (x0.length : Int) then (if 0 ≤ x3 then ((spec_CellValid.f k ((rd_T35 x0 x3).f0) ((rd_T35 x0 x3).f1) ((rd_T35 x0 x3).f2)).bind fun t440 => (if t440 = true then (spec_ExprValid.l0 k x0 (wrap64 (x3 + 1))) else (some false))) else (none)) else ((spec_l1In.f (x0.length : Int) 1 60).bind fun t441 => (if t441 = true then ((spec_l5End.f k x0 0).bind fun t442 => (if t442 = (x0.length : Int) then ((spec_l5Depth.f k x0 0).bind fun t443 => (some (decide (t443 ≤ 12)))) else (some false))) else (some false)))
def spec_ExprValid.f (k : Nat) (l0 : List (S35)) : Option (Bool) := spec_ExprValid.l0 k l0 0
theorem spec_ExprValid.mono_l : ∀ k, (∀ y0 y1, LeO (spec_ExprValid.l0 k y0 y1) (spec_ExprValid.l0 (k + 1) y0 y1))
 | 0 => fun _ _ r h => by simp [spec_ExprValid.l0] at h
 | k + 1 => by
  have ih0 := spec_ExprValid.mono_l k
  ·intro y0 y1
   unfold spec_ExprValid.l0
   repeat' first
   | (with_reducible exact ih0 _ _)
   | (with_reducible exact spec_CellValid.mono _ _ _ _)
   | (with_reducible exact spec_l5Depth.mono _ _ _)
   | (with_reducible exact spec_l5End.mono _ _ _)
   | (with_reducible exact LeO.refl _)
   | (with_reducible exact LeO.none _)
   | (with_reducible refine LeO.ite ?_ ?_)
   | (with_reducible refine LeO.bind ?_ (fun _ => ?_))
   | exact ih0 _ _
   | exact spec_CellValid.mono _ _ _ _
   | exact spec_l5Depth.mono _ _ _
   | exact spec_l5End.mono _ _ _
   | exact LeO.none _
   | refine LeO.ite ?_ ?_
   | refine LeO.bind ?_ (fun _ => ?_)
theorem spec_ExprValid.mono : ∀ a0 k, LeO (spec_ExprValid.f k a0) (spec_ExprValid.f (k + 1) a0) := by
 intro a0 k
 have ih0 := spec_ExprValid.mono_l k
 unfold spec_ExprValid.f
 repeat' first
   | (with_reducible exact ih0 _ _)
   | (with_reducible exact spec_CellValid.mono _ _ _ _)
   | (with_reducible exact spec_l5Depth.mono _ _ _)
   | (with_reducible exact spec_l5End.mono _ _ _)
   | (with_reducible exact LeO.refl _)
   | (with_reducible exact LeO.none _)
   | (with_reducible refine LeO.ite ?_ ?_)
   | (with_reducible refine LeO.bind ?_ (fun _ => ?_))
   | exact ih0 _ _
   | exact spec_CellValid.mono _ _ _ _
   | exact spec_l5Depth.mono _ _ _
   | exact spec_l5End.mono _ _ _
   | exact LeO.none _
   | refine LeO.ite ?_ ?_
   | refine LeO.bind ?_ (fun _ => ?_)
set_option maxHeartbeats 8000000 in
set_option maxRecDepth 100000 in
theorem spec_ExprValid.calls (k : Nat) (A0 : Option Addr) (c0 : Nat) (l0 : List (S35)) (r : Bool) (w : World) (hr0 : Kd.C k35 w A0 l0.length l0) (hc0 : l0.length ≤ c0) (h : spec_ExprValid.f k l0 = some r) :
  Calls Tryz.prog 16 #[.slice A0 l0.length c0] w fun e w' => e = .returned (.bool r) ∧ Below w.heap.size w w' := by
 have hu35 := Tryz.underlying35
 have HR0 := Aside0.mk hr0
 have HC0 := Aside0.mk hc0
 clear hr0 hc0
 have HB := Aside0.mk (Below.refl w.heap.size w)
 have H : (spec_ExprValid.l0 k l0 0) = some r := h
 clear h
 have H' := Aside0.mk H
 clear H
 go_enter Tryz.func16, Tryz.ntmps16
 go_wp2
 go_loopg [3] k (fun kq v3 w' => ∃ (x3_1 : Int), v3 = .int .i64 x3_1 ∧ Aside0 (spec_ExprValid.l0 kq l0 x3_1 = some r) ∧ Aside0 (kq ≤ k) ∧ Aside0 (Below w.heap.size w w'))
 case atStart => exact ⟨(0), (by first | rfl | (simp; done) | (simp [*]; done)), H', ⟨Nat.le_refl _⟩, ⟨zz21_2_ HB.out⟩⟩
 case round =>
  clear H'
  try clear c1
  obtain ⟨x3_1, rfl, HA, HK1, HB⟩ := hrel
  cases gk with
  | zero => exact absurd HA.out (by simp [spec_ExprValid.l0])
  | succ k1 =>
   have H := HA.out
   clear HA
   simp only [spec_ExprValid.l0] at H
   by_cases c2 : x3_1 < (l0.length : Int)
   ·rw [if_pos c2] at H
    have c2b0 : decide (x3_1 < (l0.length : Int)) = true := decide_eq_true c2
    clear c2
    by_cases c3 : 0 ≤ x3_1
    ·rw [if_pos c3] at H
     have c3b0 : decide (0 ≤ x3_1) = true := decide_eq_true c3
     clear c3
     replace H := Option.bind_eq_some_iff.mp H
     obtain ⟨t440, A40, H⟩ := H
     try dsimp only at H
     have A4 := Aside0.mk A40
     clear A40
     by_cases c5 : t440 = true
     ·subst c5
      rw [if_pos rfl] at H
      have H' := Aside0.mk H
      clear H
      have p439 : 0 ≤ (x3_1 : Int) := of_decide_eq_true (zz21_0_)
      have q439 : x3_1 < (l0.length : Int) := of_decide_eq_true (zz21_0_)
      obtain ⟨ad439, e439, hx439_0, hx439_1, hx439_2⟩ := at_T35 HR0.out x3_1 p439 q439
      cases e439
      replace hx439_0 := (HB.out.cell (World.block_lt_of_cell? w _ hx439_0)).trans hx439_0
      replace hx439_1 := (HB.out.cell (World.block_lt_of_cell? w _ hx439_1)).trans hx439_1
      replace hx439_2 := (HB.out.cell (World.block_lt_of_cell? w _ hx439_2)).trans hx439_2
      replace p439 := eq_true p439
      replace q439 := eq_true q439
      go_wp2_with (first | ((with_reducible refine gate_callee (f := 29) rfl ?_); refine goesL_ (some 14) rfl rfl Tryz.func29 (by kernel_rfl) rfl #[.agg #[.int .i64 ((rd_T35 l0 x3_1).f0), .string ((rd_T35 l0 x3_1).f1), .int .i64 ((rd_T35 l0 x3_1).f2)]] rfl (zz21_1_) ?_; (with_reducible refine (spec_CellValid.calls k1 ((rd_T35 l0 x3_1).f0) ((rd_T35 l0 x3_1).f1) ((rd_T35 l0 x3_1).f2) true _ A4.out).mono ?_); rintro e w6 ⟨rfl, hb⟩; refine ⟨_, rfl, ?_⟩; have n0_ := Aside0.mk (below_step (zz21_2_ HB.out) hb); clear HB; have HB := n0_; clear n0_; (try clear hb); (try clear hb2); (try clear hk); (try clear hi)))
      go_roundg k1
      case measure => have := HK1.out; omega
      case rel => exact ⟨(wrap64 (x3_1 + 1)), (by first | rfl | (simp; done) | (simp [*]; done)), H', ⟨by have := HK1.out; omega⟩, ⟨zz21_2_ HB.out⟩⟩
     ·replace c5 := Bool.eq_false_iff.mpr c5
      subst c5
      rw [if_neg (show ¬ (false = true) by decide)] at H
      obtain rfl := Option.some.inj H
      have p439 : 0 ≤ (x3_1 : Int) := of_decide_eq_true (zz21_0_)
      have q439 : x3_1 < (l0.length : Int) := of_decide_eq_true (zz21_0_)
      obtain ⟨ad439, e439, hx439_0, hx439_1, hx439_2⟩ := at_T35 HR0.out x3_1 p439 q439
      cases e439
      replace hx439_0 := (HB.out.cell (World.block_lt_of_cell? w _ hx439_0)).trans hx439_0
      replace hx439_1 := (HB.out.cell (World.block_lt_of_cell? w _ hx439_1)).trans hx439_1
      replace hx439_2 := (HB.out.cell (World.block_lt_of_cell? w _ hx439_2)).trans hx439_2
      replace p439 := eq_true p439
      replace q439 := eq_true q439
      go_wp2_with (first | ((with_reducible refine gate_callee (f := 29) rfl ?_); refine goesL_ (some 14) rfl rfl Tryz.func29 (by kernel_rfl) rfl #[.agg #[.int .i64 ((rd_T35 l0 x3_1).f0), .string ((rd_T35 l0 x3_1).f1), .int .i64 ((rd_T35 l0 x3_1).f2)]] rfl (zz21_1_) ?_; (with_reducible refine (spec_CellValid.calls k1 ((rd_T35 l0 x3_1).f0) ((rd_T35 l0 x3_1).f1) ((rd_T35 l0 x3_1).f2) false _ A4.out).mono ?_); rintro e w7 ⟨rfl, hb⟩; refine ⟨_, rfl, ?_⟩; have n0_ := Aside0.mk (below_step (zz21_2_ HB.out) hb); clear HB; have HB := n0_; clear n0_; (try clear hb); (try clear hb2); (try clear hk); (try clear hi)))
      go_ret
      exact ⟨by first | rfl | (simp [errW_none, errW_some] <;> rfl) | (simp [*, errW_none, errW_some] <;> rfl), zz21_2_ HB.out⟩
    ·rw [if_neg c3] at H
     exact absurd H (by simp)
   ·rw [if_neg c2] at H
    have c2b0 : decide (x3_1 < (l0.length : Int)) = false := decide_eq_false c2
    clear c2
    replace H := Option.bind_eq_some_iff.mp H
    obtain ⟨t441, A80, H⟩ := H
    try dsimp only at H
    have A8 := Aside0.mk A80
    clear A80
    by_cases c9 : t441 = true
    ·subst c9
     rw [if_pos rfl] at H
     replace H := Option.bind_eq_some_iff.mp H
     obtain ⟨t442, A100, H⟩ := H
     try dsimp only at H
     have A10 := Aside0.mk A100
     clear A100
     by_cases c11 : t442 = (l0.length : Int)
     ·rw [if_pos c11] at H
      have c11b0 : (t442 == (l0.length : Int)) = true := beq_iff_eq.mpr c11
      have c11b1 : (t442 != (l0.length : Int)) = false := bne_eq_false_iff_eq.mpr c11
      clear c11
      replace H := Option.bind_eq_some_iff.mp H
      obtain ⟨t443, A120, H⟩ := H
      try dsimp only at H
      have A12 := Aside0.mk A120
      clear A120
      obtain rfl := Option.some.inj H
      go_wp2_with (first | ((with_reducible refine gate_callee (f := 21) rfl ?_); refine goesL_ (some 18) rfl rfl Tryz.func21 (by kernel_rfl) rfl #[.int .i64 (l0.length : Int), .int .i64 1, .int .i64 60] rfl (zz21_1_) ?_; (with_reducible refine (spec_l1In.calls (l0.length : Int) 1 60 true _ A8.out).mono ?_); rintro e w' ⟨rfl, ⟨nd, rfl⟩⟩; refine ⟨_, rfl, ?_⟩) | (go_at_call 22; (with_reducible refine (spec_l5End.calls k1 _ _ l0 0 t442 _ ?side1 ?side2 A10.out).mono ?_); (case side1 => exact zz21_3_ HR0.out HB.out); (case side2 => exact HC0.out); rintro e w13 ⟨rfl, hb⟩; have n0_ := Aside0.mk (below_step (zz21_2_ HB.out) hb); clear HB; have HB := n0_; clear n0_; (try clear hb); (try clear hb2); (try clear hk); (try clear hi)) | (go_at_call 27; (with_reducible refine (spec_l5Depth.calls k1 _ _ l0 0 t443 _ ?side1 ?side2 A12.out).mono ?_); (case side1 => exact zz21_4_ HR0.out HB.out); (case side2 => exact HC0.out); rintro e w14 ⟨rfl, hb⟩; have n0_ := Aside0.mk (below_step (zz21_2_ HB.out) hb); clear HB; have HB := n0_; clear n0_; (try clear hb); (try clear hb2); (try clear hk); (try clear hi)))
      go_ret
      exact ⟨by first | rfl | (simp [errW_none, errW_some] <;> rfl) | (simp [*, errW_none, errW_some] <;> rfl), zz21_2_ HB.out⟩
     ·rw [if_neg c11] at H
      have c11b0 : (t442 == (l0.length : Int)) = false := beq_eq_false_iff_ne.mpr c11
      have c11b1 : (t442 != (l0.length : Int)) = true := bne_iff_ne.mpr c11
      obtain rfl := Option.some.inj H
      go_wp2_with (first | ((with_reducible refine gate_callee (f := 21) rfl ?_); refine goesL_ (some 18) rfl rfl Tryz.func21 (by kernel_rfl) rfl #[.int .i64 (l0.length : Int), .int .i64 1, .int .i64 60] rfl (zz21_1_) ?_; (with_reducible refine (spec_l1In.calls (l0.length : Int) 1 60 true _ A8.out).mono ?_); rintro e w' ⟨rfl, ⟨nd, rfl⟩⟩; refine ⟨_, rfl, ?_⟩) | (go_at_call 22; (with_reducible refine (spec_l5End.calls k1 _ _ l0 0 t442 _ ?side1 ?side2 A10.out).mono ?_); (case side1 => exact zz21_3_ HR0.out HB.out); (case side2 => exact HC0.out); rintro e w15 ⟨rfl, hb⟩; have n0_ := Aside0.mk (below_step (zz21_2_ HB.out) hb); clear HB; have HB := n0_; clear n0_; (try clear hb); (try clear hb2); (try clear hk); (try clear hi)))
      go_ret
      exact ⟨by first | rfl | (simp [errW_none, errW_some] <;> rfl) | (simp [*, errW_none, errW_some] <;> rfl), zz21_2_ HB.out⟩
    ·replace c9 := Bool.eq_false_iff.mpr c9
     subst c9
     rw [if_neg (show ¬ (false = true) by decide)] at H
     obtain rfl := Option.some.inj H
     go_wp2_with (first | ((with_reducible refine gate_callee (f := 21) rfl ?_); refine goesL_ (some 18) rfl rfl Tryz.func21 (by kernel_rfl) rfl #[.int .i64 (l0.length : Int), .int .i64 1, .int .i64 60] rfl (zz21_1_) ?_; (with_reducible refine (spec_l1In.calls (l0.length : Int) 1 60 false _ A8.out).mono ?_); rintro e w' ⟨rfl, ⟨nd, rfl⟩⟩; refine ⟨_, rfl, ?_⟩))
     go_ret
     exact ⟨by first | rfl | (simp [errW_none, errW_some] <;> rfl) | (simp [*, errW_none, errW_some] <;> rfl), zz21_2_ HB.out⟩

/-! ### spec_ExprDepth: function 13 -/
theorem zz21_5_ {P1 Q : Prop} (h1 : P1) (f : P1 → Q := by intro zq1_; repeat (first | exact zq1_ | (with_reducible refine Kd.C_alloc ?_ _) | (with_reducible refine Kd.C_drewN ?_ _) | (with_reducible refine Kd.C_drew ?_))) : Q := f h1
def spec_ExprDepth.f (k : Nat) (l0 : List (S35)) : Option (Int) := (spec_ExprValid.f k l0).bind fun t444 => (if t444 = true then ((spec_l5Depth.f k l0 0).bind fun t445 => (some t445)) else (some (-1)))
theorem spec_ExprDepth.mono : ∀ a0 k, LeO (spec_ExprDepth.f k a0) (spec_ExprDepth.f (k + 1) a0) := by
 intro a0 k
 unfold spec_ExprDepth.f
 repeat' first
   | (with_reducible exact spec_ExprValid.mono _ _)
   | (with_reducible exact spec_l5Depth.mono _ _ _)
   | (with_reducible exact LeO.refl _)
   | (with_reducible exact LeO.none _)
   | (with_reducible refine LeO.ite ?_ ?_)
   | (with_reducible refine LeO.bind ?_ (fun _ => ?_))
   | exact spec_ExprValid.mono _ _
   | exact spec_l5Depth.mono _ _ _
   | exact LeO.none _
   | refine LeO.ite ?_ ?_
   | refine LeO.bind ?_ (fun _ => ?_)
set_option maxHeartbeats 8000000 in
set_option maxRecDepth 100000 in
theorem spec_ExprDepth.calls (k : Nat) (A0 : Option Addr) (c0 : Nat) (l0 : List (S35)) (r : Int) (w : World) (hr0 : Kd.C k35 w A0 l0.length l0) (hc0 : l0.length ≤ c0) (h : spec_ExprDepth.f k l0 = some r) :
  Calls Tryz.prog 13 #[.slice A0 l0.length c0] w fun e w' => e = .returned (.int .i64 r) ∧ Below w.heap.size w w' := by
 have HR0 := Aside0.mk hr0
 have HC0 := Aside0.mk hc0
 clear hr0 hc0
 have HB := Aside0.mk (Below.refl w.heap.size w)
 have H : ((spec_ExprValid.f k l0).bind fun t444 => (if t444 = true then ((spec_l5Depth.f k l0 0).bind fun t445 => (some t445)) else (some (-1)))) = some r := h
 clear h
 replace H := Option.bind_eq_some_iff.mp H
 obtain ⟨t444, A20, H⟩ := H
 try dsimp only at H
 have A2 := Aside0.mk A20
 clear A20
 by_cases c3 : t444 = true
 ·subst c3
  rw [if_pos rfl] at H
  replace H := Option.bind_eq_some_iff.mp H
  obtain ⟨t445, A40, H⟩ := H
  try dsimp only at H
  have A4 := Aside0.mk A40
  clear A40
  obtain rfl := Option.some.inj H
  go_enter Tryz.func13, Tryz.ntmps13
  go_wp2_with (first | ((with_reducible refine gate_callee (f := 16) rfl ?_); refine goesL_ (some 4) rfl rfl Tryz.func16 (by kernel_rfl) rfl #[.slice A0 l0.length c0] rfl (zz21_1_) ?_; (with_reducible refine (spec_ExprValid.calls k _ _ l0 true _ ?side1 ?side2 A2.out).mono ?_); (case side1 => exact zz21_5_ HR0.out); (case side2 => exact HC0.out); rintro e w5 ⟨rfl, hb⟩; refine ⟨_, rfl, ?_⟩; have n0_ := Aside0.mk (below_step (zz21_2_ HB.out) hb); clear HB; have HB := n0_; clear n0_; (try clear hb); (try clear hb2); (try clear hk); (try clear hi)) | ((with_reducible refine gate_callee (f := 27) rfl ?_); refine goesL_ (some 7) rfl rfl Tryz.func27 (by kernel_rfl) rfl #[.slice A0 l0.length c0, .int .i64 0] rfl (zz21_1_) ?_; (with_reducible refine (spec_l5Depth.calls k _ _ l0 0 t445 _ ?side1 ?side2 A4.out).mono ?_); (case side1 => exact zz21_4_ HR0.out HB.out); (case side2 => exact HC0.out); rintro e w6 ⟨rfl, hb⟩; refine ⟨_, rfl, ?_⟩; have n0_ := Aside0.mk (below_step (zz21_2_ HB.out) hb); clear HB; have HB := n0_; clear n0_; (try clear hb); (try clear hb2); (try clear hk); (try clear hi)))
  go_ret
  exact ⟨by first | rfl | (simp [errW_none, errW_some] <;> rfl) | (simp [*, errW_none, errW_some] <;> rfl), zz21_2_ HB.out⟩
 ·replace c3 := Bool.eq_false_iff.mpr c3
  subst c3
  rw [if_neg (show ¬ (false = true) by decide)] at H
  obtain rfl := Option.some.inj H
  go_enter Tryz.func13, Tryz.ntmps13
  go_wp2_with (first | ((with_reducible refine gate_callee (f := 16) rfl ?_); refine goesL_ (some 4) rfl rfl Tryz.func16 (by kernel_rfl) rfl #[.slice A0 l0.length c0] rfl (zz21_1_) ?_; (with_reducible refine (spec_ExprValid.calls k _ _ l0 false _ ?side1 ?side2 A2.out).mono ?_); (case side1 => exact zz21_5_ HR0.out); (case side2 => exact HC0.out); rintro e w7 ⟨rfl, hb⟩; refine ⟨_, rfl, ?_⟩; have n0_ := Aside0.mk (below_step (zz21_2_ HB.out) hb); clear HB; have HB := n0_; clear n0_; (try clear hb); (try clear hb2); (try clear hk); (try clear hi)))
  go_ret
  exact ⟨by first | rfl | (simp [errW_none, errW_some] <;> rfl) | (simp [*, errW_none, errW_some] <;> rfl), zz21_2_ HB.out⟩

/-! impl.copied: a copy in new memory -/
def impl_copied_int.f (l0 : List Int) : Option (List Int) := if l0.length ≤ 35184372088832 then some l0 else none
theorem impl_copied_int.info_ : (Tryz.prog.info? 3).map (fun i => (i.zero, i.size, i.bytes)) = some (some ((.int .i64 0)), 1, 8) := by kernel_rfl
set_option maxHeartbeats 8000000 in
set_option maxRecDepth 100000 in
theorem impl_copied_int.calls (A0 : Option Addr) (c0 : Nat) (l0 : List Int) (r : List Int) (w : World) (hr0 : Kd.C (Kd.int .i64) w A0 l0.length l0) (hc0 : l0.length ≤ c0) (h : impl_copied_int.f l0 = some r) :
  Calls Tryz.prog 38 #[.slice A0 l0.length c0] w fun e w' => ∃ v0_ : Value, e = .returned (v0_) ∧ Kd.R (Kd.int .i64) 3 w' w.heap.size (fun _ => True) v0_ r ∧ Below w.heap.size w w' := by
 have hKM : ∀ (w w' : World) base ok (p : Int) cs, ((Kd.int .i64)).K w p cs → ((Kd.int .i64)).M w' base ok p cs := fun _ _ _ _ _ _ h => h
 have HR0 := Aside0.mk hr0
 have HC0 := Aside0.mk hc0
 clear hr0 hc0
 have HB := Aside0.mk (Below.refl w.heap.size w)
 unfold impl_copied_int.f at h
 by_cases hb : l0.length ≤ 35184372088832
 ·rw [if_pos hb] at h
  obtain rfl := Option.some.inj h
  clear h
  by_cases h0 : l0.length = 0
  ·have hl : l0 = [] := List.length_eq_zero_iff.1 h0
   subst hl
   clear h0 hb HR0
   have h1 : (((([] : List Int).length : Nat) : Int) == 0) = true := rfl
   go_enter Tryz.func38, Tryz.ntmps38
   go_wp2
   go_ret
   exact ⟨_, rfl, Kd.R_nil _ _ _ _ _, HB.out⟩
  ·have h1 : ((l0.length : Int) == 0) = false := by
    rw [beq_eq_false_iff_ne]; omega
   have h2 : decide ((l0.length : Int) = 0) = false := by
    rw [decide_eq_false_iff_not]; omega
   have h3 : (l0.length == 0) = false := by
    rw [beq_eq_false_iff_ne]; omega
   have h4 : ¬ l0 = [] := fun e => h0 (by rw [e]; rfl)
   have HP := Aside0.mk (show 0 < l0.length by omega)
   have HN := Aside0.mk (show (0 : Int) ≤ (l0.length : Int) by omega)
   have HM := Aside0.mk (show (l0.length : Int).toNat * 8 ≤ 281474976710656 by rw [Int.toNat_natCast]; omega)
   clear h0 hb
   go_enter Tryz.func38, Tryz.ntmps38
   go_wp2_with (first | ((with_reducible refine gate_dst (N := 9) rfl ?_); refine Kd.R_make (Kd.int .i64) w.heap.size 3 rfl (N := 9) rfl 32 _ _ rfl (l0.length : Int) rfl rfl Tryz.underlying32 ((.int .i64 0)) 8 impl_copied_int.info_ rfl (by decide) (by omega) (0 : Int) (ok := fun _ => True) (okp := fun _ => True) rfl (fun _ hk => hk) trivial HN.out HM.out HB.out (below_size HB.out) ?_; intro v110 w4 ho5 hb5 hg_ hnew_; clear hg_ hnew_; have HO := Aside0.mk ho5; have HB2 := Aside0.mk hb5; clear hb5 ho5 HN HM) | ((with_reducible refine gate_dst (N := 12) rfl ?_); refine wp_copy_all (Kd.int .i64) (w0 := w) w.heap.size 3 rfl (.tmp 10) (.tmp 11) 32 rfl Tryz.underlying32 (by kernel_rfl) v110 _ l0 HO.out (by rw [List.length_replicate, Int.toNat_natCast]) HP.out A0 c0 rfl rfl (Kd.C_below HR0.out HB2.out) hKM HB2.out ?_; intro w5 ho6 hb6; have HO2 := Aside0.mk ho6; have HB3 := Aside0.mk hb6; clear ho6 hb6))
   go_ret
   exact ⟨_, rfl, HO2.out, HB3.out⟩
 ·rw [if_neg hb] at h; cases h

/-! ### impl_partsAt: function 28 -/
theorem zz21_6_ {P1 Q : Prop} (h1 : P1) (f : P1 → Q := by intro zq1_; (with_reducible repeat (first | apply Kd.R_alloc | apply Kd.R_drewN | apply Kd.R_drew)); exact zq1_) : Q := f h1
def impl_partsAt.l0 : Nat → List (S35) → Int → List Int → Int → Int → Option (List Int)
 | 0, _, _, _, _, _ => none
 | k + 1, x0, x1, x5, x6, x7 => if 0 ≤ x1 then (if x1 < (x0.length : Int) then (if x7 < ((rd_T35 x0 x1).f2) then (if x5.length < 17592186044416 then ((impl_measure.f k x0 x6).bind fun bt450 => (impl_partsAt.l0 k x0 x1 (x5 ++ [x6]) bt450.1 (wrap64 (x7 + 1)))) else (none)) else ((impl_copied_int.f x5).bind fun t452 => (some t452))) else (none)) else (none)
def impl_partsAt.f (k : Nat) (l0 : List (S35)) (a1 : Int) : Option (List Int) := impl_partsAt.l0 k l0 a1 ([] : List Int) (wrap64 (a1 + 1)) 0
theorem impl_partsAt.mono_l : ∀ k, (∀ y0 y1 y2 y3 y4, LeO (impl_partsAt.l0 k y0 y1 y2 y3 y4) (impl_partsAt.l0 (k + 1) y0 y1 y2 y3 y4))
 | 0 => fun _ _ _ _ _ r h => by simp [impl_partsAt.l0] at h
 | k + 1 => by
  have ih0 := impl_partsAt.mono_l k
  ·intro y0 y1 y2 y3 y4
   unfold impl_partsAt.l0
   repeat' first
   | (with_reducible exact ih0 _ _ _ _ _)
   | (with_reducible exact impl_measure.mono _ _ _)
   | (with_reducible exact LeO.refl _)
   | (with_reducible exact LeO.none _)
   | (with_reducible refine LeO.ite ?_ ?_)
   | (with_reducible refine LeO.bind ?_ (fun _ => ?_))
   | exact ih0 _ _ _ _ _
   | exact impl_measure.mono _ _ _
   | exact LeO.none _
   | refine LeO.ite ?_ ?_
   | refine LeO.bind ?_ (fun _ => ?_)
theorem impl_partsAt.mono : ∀ a0 a1 k, LeO (impl_partsAt.f k a0 a1) (impl_partsAt.f (k + 1) a0 a1) := by
 intro a0 a1 k
 have ih0 := impl_partsAt.mono_l k
 unfold impl_partsAt.f
 repeat' first
   | (with_reducible exact ih0 _ _ _ _ _)
   | (with_reducible exact impl_measure.mono _ _ _)
   | (with_reducible exact LeO.refl _)
   | (with_reducible exact LeO.none _)
   | (with_reducible refine LeO.ite ?_ ?_)
   | (with_reducible refine LeO.bind ?_ (fun _ => ?_))
   | exact ih0 _ _ _ _ _
   | exact impl_measure.mono _ _ _
   | exact LeO.none _
   | refine LeO.ite ?_ ?_
   | refine LeO.bind ?_ (fun _ => ?_)
set_option maxHeartbeats 8000000 in
set_option maxRecDepth 100000 in
theorem impl_partsAt.calls (k : Nat) (A0 : Option Addr) (c0 : Nat) (l0 : List (S35)) (a1 : Int) (r : List Int) (w : World) (hr0 : Kd.C k35 w A0 l0.length l0) (hc0 : l0.length ≤ c0) (h : impl_partsAt.f k l0 a1 = some r) :
  Calls Tryz.prog 28 #[.slice A0 l0.length c0, .int .i64 a1] w fun e w' => ∃ v0_ : Value, e = .returned (v0_) ∧ Kd.R (Kd.int .i64) 3 w' w.heap.size (fun _ => True) v0_ r ∧ Below w.heap.size w w' := by
 have HR0 := Aside0.mk hr0
 have HC0 := Aside0.mk hc0
 clear hr0 hc0
 have HB := Aside0.mk (Below.refl w.heap.size w)
 have H : (impl_partsAt.l0 k l0 a1 ([] : List Int) (wrap64 (a1 + 1)) 0) = some r := h
 clear h
 have H' := Aside0.mk H
 clear H
 go_enter Tryz.func28, Tryz.ntmps28
 go_wp2
 go_loopg [5, 6, 7] k (fun kq v5 v6 v7 w' => ∃ (x5_1 : List Int) (x6_1 : Int) (x7_1 : Int), v6 = .int .i64 x6_1 ∧ v7 = .int .i64 x7_1 ∧ Aside0 (impl_partsAt.l0 kq l0 a1 x5_1 x6_1 x7_1 = some r) ∧ Aside0 (kq ≤ k) ∧ Aside0 (Kd.R (Kd.int .i64) 3 w' w.heap.size (fun _ => True) v5 x5_1) ∧ Aside0 (Below w.heap.size w w'))
 case atStart => exact ⟨(([] : List Int)), (wrap64 (a1 + 1)), (0), (by first | rfl | (simp; done) | (simp [*]; done)), (by first | rfl | (simp; done) | (simp [*]; done)), H', ⟨Nat.le_refl _⟩, ⟨by first | exact Kd.R_nil _ _ _ _ _ | exact Kd.N_nil _ _ _ _ _ | exact Kd.V_nil _ _ _ _ _ | exact Kd.Q_nil _ _ _ _ _ | exact Kd.S_nil _ _ _ _ _⟩, ⟨zz21_2_ HB.out⟩⟩
 case round =>
  clear H'
  try clear c2
  try clear p2
  obtain ⟨x5_1, x6_1, x7_1, rfl, rfl, HA, HK1, HO_5, HB⟩ := hrel
  cases gk with
  | zero => exact absurd HA.out (by simp [impl_partsAt.l0])
  | succ k1 =>
   have H := HA.out
   clear HA
   simp only [impl_partsAt.l0] at H
   by_cases c3 : 0 ≤ a1
   ·rw [if_pos c3] at H
    have c3b0 : decide (0 ≤ a1) = true := decide_eq_true c3
    clear c3
    by_cases c4 : a1 < (l0.length : Int)
    ·rw [if_pos c4] at H
     have c4b0 : decide (a1 < (l0.length : Int)) = true := decide_eq_true c4
     clear c4
     by_cases c5 : x7_1 < ((rd_T35 l0 a1).f2)
     ·rw [if_pos c5] at H
      have c5b0 : decide (x7_1 < ((rd_T35 l0 a1).f2)) = true := decide_eq_true c5
      clear c5
      by_cases c6 : x5_1.length < 17592186044416
      ·rw [if_pos c6] at H
       have LMc6 := Aside0.mk c6
       clear c6
       obtain ⟨y447, hy447⟩ : ∃ y_ : List Int, y_ = (x5_1 ++ [x6_1]) := ⟨_, rfl⟩
       replace H : ((impl_measure.f k1 l0 x6_1).bind fun bt450 => (impl_partsAt.l0 k1 l0 a1 y447 bt450.1 (wrap64 (x7_1 + 1)))) = some r := by first | (rw [hy447]; with_reducible exact H) | (have H2_ := (Option.bind_some _ _).symm.trans H; rw [hy447]; with_reducible exact H2_) | (have H2_ := (Option.bind_some _ _).symm.trans H; with_reducible exact H2_) | with_reducible exact H | (rw [hy447]; exact H) | exact H
       have Ny447 := Aside0.mk hy447
       clear hy447
       replace H := Option.bind_eq_some_iff.mp H
       obtain ⟨⟨t450, t451⟩, A70, H⟩ := H
       try dsimp only at H
       have A7 := Aside0.mk A70
       clear A70
       have H' := Aside0.mk H
       clear H
       have p446 : 0 ≤ (a1 : Int) := of_decide_eq_true (zz21_0_)
       have q446 : a1 < (l0.length : Int) := of_decide_eq_true (zz21_0_)
       obtain ⟨ad446, e446, hx446_0, hx446_1, hx446_2⟩ := at_T35 HR0.out a1 p446 q446
       cases e446
       replace hx446_0 := (HB.out.cell (World.block_lt_of_cell? w _ hx446_0)).trans hx446_0
       replace hx446_1 := (HB.out.cell (World.block_lt_of_cell? w _ hx446_1)).trans hx446_1
       replace hx446_2 := (HB.out.cell (World.block_lt_of_cell? w _ hx446_2)).trans hx446_2
       replace p446 := eq_true p446
       replace q446 := eq_true q446
       go_wp2_with (first | ((with_reducible refine gate_builtin (b := .append) (xs := #[.tmp 19, .tmp 21]) rfl ?_); at_builtin; refine Kd.R_append (Kd.int .i64) (w0 := w) w.heap.size rfl (.tmp 19) (.tmp 21) 32 3 (.int .i64 0) 8 rfl Tryz.underlying32 info3 rfl (by decide) (by omega) u5 x5_1 x6_1 [.int .i64 x6_1] (fun _ => True) (fun _ => False) rfl rfl ?aP (fun _ hk => hk.elim) ?aF ?aO ?aB ?aS ?aL ?_; (case aP => exact rfl); (case aB => exact (zz21_2_ HB.out)); (case aF => exact (fun _ _ => trivial)); (case aO => exact (zz21_6_ HO_5.out)); (case aS => exact (below_size (zz21_2_ HB.out))); (case aL => have := LMc6.out; omega); intro v448 w8 ho hb hg hat; rw [← Ny447.out] at ho; have n0_ := Aside0.mk (hb); have n1_ := Aside0.mk (ho); clear HB; clear HO_5; have HB := n0_; have HO449 := n1_; clear n0_ n1_; clear ho hb hg hat) | ((with_reducible refine gate_callee (f := 20) rfl ?_); refine goesL_ (some 26) rfl rfl Tryz.func20 (by kernel_rfl) rfl #[.slice (some ad446) l0.length c0, .int .i64 x6_1] rfl (zz21_1_) ?_; (with_reducible refine (impl_measure.calls k1 _ _ l0 x6_1 t450 t451 _ ?side1 ?side2 A7.out).mono ?_); (case side1 => exact zz21_4_ HR0.out HB.out); (case side2 => exact HC0.out); rintro e w9 ⟨rfl, hb⟩; refine ⟨_, rfl, ?_⟩; have n0_ := Aside0.mk (Kd.R_below (zz21_6_ HO449.out) hb); have n1_ := Aside0.mk (below_step (zz21_2_ HB.out) hb); clear HO449; clear HB; have HO449 := n0_; have HB := n1_; clear n0_ n1_; (try clear hb); (try clear hb2); (try clear hk); (try clear hi)))
       go_roundg k1
       case measure => have := HK1.out; omega
       case rel => exact ⟨(y447), (t450), (wrap64 (x7_1 + 1)), (by first | rfl | (simp; done) | (simp [*]; done)), (by first | rfl | (simp; done) | (simp [*]; done)), H', ⟨by have := HK1.out; omega⟩, ⟨zz21_6_ HO449.out⟩, ⟨zz21_2_ HB.out⟩⟩
      ·rw [if_neg c6] at H
       exact absurd H (by simp)
     ·rw [if_neg c5] at H
      have c5b0 : decide (x7_1 < ((rd_T35 l0 a1).f2)) = false := decide_eq_false c5
      clear c5
      replace H := Option.bind_eq_some_iff.mp H
      obtain ⟨t452, A100, H⟩ := H
      try dsimp only at H
      have A10 := Aside0.mk A100
      clear A100
      obtain rfl := Option.some.inj H
      have p446 : 0 ≤ (a1 : Int) := of_decide_eq_true (zz21_0_)
      have q446 : a1 < (l0.length : Int) := of_decide_eq_true (zz21_0_)
      obtain ⟨ad446, e446, hx446_0, hx446_1, hx446_2⟩ := at_T35 HR0.out a1 p446 q446
      cases e446
      replace hx446_0 := (HB.out.cell (World.block_lt_of_cell? w _ hx446_0)).trans hx446_0
      replace hx446_1 := (HB.out.cell (World.block_lt_of_cell? w _ hx446_1)).trans hx446_1
      replace hx446_2 := (HB.out.cell (World.block_lt_of_cell? w _ hx446_2)).trans hx446_2
      replace p446 := eq_true p446
      replace q446 := eq_true q446
      obtain ⟨Ao11, co11, eo11⟩ := Kd.R_slice HO_5.out
      subst eo11
      go_wp2_with (first | ((with_reducible refine gate_callee (f := 38) rfl ?_); refine goesL_ (some 30) rfl rfl Tryz.func38 (by kernel_rfl) rfl #[.slice Ao11 x5_1.length co11] rfl (zz21_1_) ?_; (with_reducible refine (impl_copied_int.calls _ _ x5_1 t452 _ ?side1 ?side2 A10.out).mono ?_); (case side1 => repeat (first | exact (Kd.R_reads' HO_5.out).2.2 | (with_reducible refine Kd.C_alloc ?_ _) | (with_reducible refine Kd.C_drewN ?_ _) | (with_reducible refine Kd.C_drew ?_))); (case side2 => exact (Kd.R_reads' HO_5.out).2.1); rintro e w12 ⟨v453, rfl, ho0, hb⟩; refine ⟨_, rfl, ?_⟩; have n0_ := Aside0.mk (Kd.R_elder' (zz21_6_ HO_5.out) (Kd.R_base ho0) hb); have n1_ := Aside0.mk (Kd.R_lower (Kd.R_new' ho0 (Kd.R_lt (zz21_6_ HO_5.out))) (below_size (zz21_2_ HB.out))); have n2_ := Aside0.mk (below_step (zz21_2_ HB.out) hb); clear HO_5; clear HB; have HO_5 := n0_; have HO454 := n1_; have HB := n2_; clear n0_ n1_ n2_; (try clear hb); (try clear hb2); (try clear hk); (try clear hi); (try clear ho0)))
      go_ret
      exact ⟨_, by first | rfl | (simp [errW_none, errW_some] <;> rfl) | (simp [*, errW_none, errW_some] <;> rfl), by (with_reducible repeat (first | apply Kd.R_alloc | apply Kd.R_drewN | apply Kd.R_drew)); exact Kd.R_mono HO454.out (fun _ hk => trivial), zz21_2_ HB.out⟩
    ·rw [if_neg c4] at H
     exact absurd H (by simp)
   ·rw [if_neg c3] at H
    exact absurd H (by simp)

/-! ### impl_ExprParts: function 14 -/
theorem zz21_7_ {P1 P2 Q : Prop} (h1 : P1) (h2 : P2) (f : P1 → P2 → Q := by intro zq1_ zq2_; first | exact zq1_ | exact tab_at zq1_ (by repeat (first | (with_reducible first | exact zq2_ | apply below_alloc | apply pw_below_drewN | apply below_drew1) | exact zq2_))) : Q := f h1 h2
def impl_ExprParts.f (k : Nat) (l0 : List (S35)) (a1 : Int) : Option (List Int) := (impl_ExprValid.f k l0).bind fun t455 => (if t455 = true then ((impl_in.f a1 0 (wrap64 ((l0.length : Int) - 1))).bind fun t456 => (if t456 = true then ((impl_partsAt.f k l0 a1).bind fun t457 => (some t457)) else (some ([] : List Int)))) else (some ([] : List Int)))
theorem impl_ExprParts.mono : ∀ a0 a1 k, LeO (impl_ExprParts.f k a0 a1) (impl_ExprParts.f (k + 1) a0 a1) := by
 intro a0 a1 k
 unfold impl_ExprParts.f
 repeat' first
   | (with_reducible exact impl_ExprValid.mono _ _)
   | (with_reducible exact impl_partsAt.mono _ _ _)
   | (with_reducible exact LeO.refl _)
   | (with_reducible exact LeO.none _)
   | (with_reducible refine LeO.ite ?_ ?_)
   | (with_reducible refine LeO.bind ?_ (fun _ => ?_))
   | exact impl_ExprValid.mono _ _
   | exact impl_partsAt.mono _ _ _
   | exact LeO.none _
   | refine LeO.ite ?_ ?_
   | refine LeO.bind ?_ (fun _ => ?_)
set_option maxHeartbeats 8000000 in
set_option maxRecDepth 100000 in
theorem impl_ExprParts.calls (k : Nat) (A0 : Option Addr) (c0 : Nat) (l0 : List (S35)) (a1 : Int) (r : List Int) (w : World) (hr0 : Kd.C k35 w A0 l0.length l0) (hc0 : l0.length ≤ c0) (htab : Tab10 w) (h : impl_ExprParts.f k l0 a1 = some r) :
  Calls Tryz.prog 14 #[.slice A0 l0.length c0, .int .i64 a1] w fun e w' => ∃ v0_ : Value, e = .returned (v0_) ∧ Kd.R (Kd.int .i64) 3 w' w.heap.size (fun _ => True) v0_ r ∧ Below w.heap.size w w' := by
 have HTAB := Aside0.mk htab
 clear htab
 have HR0 := Aside0.mk hr0
 have HC0 := Aside0.mk hc0
 clear hr0 hc0
 have HB := Aside0.mk (Below.refl w.heap.size w)
 have H : ((impl_ExprValid.f k l0).bind fun t455 => (if t455 = true then ((impl_in.f a1 0 (wrap64 ((l0.length : Int) - 1))).bind fun t456 => (if t456 = true then ((impl_partsAt.f k l0 a1).bind fun t457 => (some t457)) else (some ([] : List Int)))) else (some ([] : List Int)))) = some r := h
 clear h
 replace H := Option.bind_eq_some_iff.mp H
 obtain ⟨t455, A30, H⟩ := H
 try dsimp only at H
 have A3 := Aside0.mk A30
 clear A30
 by_cases c4 : t455 = true
 ·subst c4
  rw [if_pos rfl] at H
  replace H := Option.bind_eq_some_iff.mp H
  obtain ⟨t456, A50, H⟩ := H
  try dsimp only at H
  have A5 := Aside0.mk A50
  clear A50
  by_cases c6 : t456 = true
  ·subst c6
   rw [if_pos rfl] at H
   replace H := Option.bind_eq_some_iff.mp H
   obtain ⟨t457, A70, H⟩ := H
   try dsimp only at H
   have A7 := Aside0.mk A70
   clear A70
   obtain rfl := Option.some.inj H
   go_enter Tryz.func14, Tryz.ntmps14
   go_wp2_with (first | ((with_reducible refine gate_callee (f := 10) rfl ?_); refine goesL_ (some 6) rfl rfl Tryz.func10 (by kernel_rfl) rfl #[.slice A0 l0.length c0] rfl (zz21_1_) ?_; (with_reducible refine (impl_ExprValid.calls k _ _ l0 true _ ?side1 ?side2 (zz21_7_ HTAB.out HB.out) A3.out).mono ?_); (case side1 => exact zz21_5_ HR0.out); (case side2 => exact HC0.out); rintro e w8 ⟨rfl, hb⟩; refine ⟨_, rfl, ?_⟩; have n0_ := Aside0.mk (below_step (zz21_2_ HB.out) hb); clear HB; have HB := n0_; clear n0_; (try clear hb); (try clear hb2); (try clear hk); (try clear hi)) | (go_at_call 19; (with_reducible refine (impl_in.calls a1 0 (wrap64 ((l0.length : Int) - 1)) true _ A5.out).mono ?_); rintro e w' ⟨rfl, ⟨nd, rfl⟩⟩) | ((with_reducible refine gate_callee (f := 28) rfl ?_); refine goesL_ (some 18) rfl rfl Tryz.func28 (by kernel_rfl) rfl #[.slice A0 l0.length c0, .int .i64 a1] rfl (zz21_1_) ?_; (with_reducible refine (impl_partsAt.calls k _ _ l0 a1 t457 _ ?side1 ?side2 A7.out).mono ?_); (case side1 => exact zz21_3_ HR0.out HB.out); (case side2 => exact HC0.out); rintro e w9 ⟨v458, rfl, ho0, hb⟩; refine ⟨_, rfl, ?_⟩; have n0_ := Aside0.mk (Kd.R_lower ho0 (below_size (zz21_2_ HB.out))); have n1_ := Aside0.mk (below_step (zz21_2_ HB.out) hb); clear HB; have HO459 := n0_; have HB := n1_; clear n0_ n1_; (try clear hb); (try clear hb2); (try clear hk); (try clear hi); (try clear ho0)))
   go_ret
   exact ⟨_, by first | rfl | (simp [errW_none, errW_some] <;> rfl) | (simp [*, errW_none, errW_some] <;> rfl), zz21_6_ HO459.out, zz21_2_ HB.out⟩
  ·replace c6 := Bool.eq_false_iff.mpr c6
   subst c6
   rw [if_neg (show ¬ (false = true) by decide)] at H
   obtain rfl := Option.some.inj H
   go_enter Tryz.func14, Tryz.ntmps14
   go_wp2_with (first | ((with_reducible refine gate_callee (f := 10) rfl ?_); refine goesL_ (some 6) rfl rfl Tryz.func10 (by kernel_rfl) rfl #[.slice A0 l0.length c0] rfl (zz21_1_) ?_; (with_reducible refine (impl_ExprValid.calls k _ _ l0 true _ ?side1 ?side2 (zz21_7_ HTAB.out HB.out) A3.out).mono ?_); (case side1 => exact zz21_5_ HR0.out); (case side2 => exact HC0.out); rintro e w10 ⟨rfl, hb⟩; refine ⟨_, rfl, ?_⟩; have n0_ := Aside0.mk (below_step (zz21_2_ HB.out) hb); clear HB; have HB := n0_; clear n0_; (try clear hb); (try clear hb2); (try clear hk); (try clear hi)) | (go_at_call 19; (with_reducible refine (impl_in.calls a1 0 (wrap64 ((l0.length : Int) - 1)) false _ A5.out).mono ?_); rintro e w' ⟨rfl, ⟨nd, rfl⟩⟩))
   go_ret
   exact ⟨_, by first | rfl | (simp [errW_none, errW_some] <;> rfl) | (simp [*, errW_none, errW_some] <;> rfl), by first | exact Kd.R_nil _ _ _ _ _ | exact Kd.N_nil _ _ _ _ _ | exact Kd.V_nil _ _ _ _ _ | exact Kd.Q_nil _ _ _ _ _ | exact Kd.S_nil _ _ _ _ _, zz21_2_ HB.out⟩
 ·replace c4 := Bool.eq_false_iff.mpr c4
  subst c4
  rw [if_neg (show ¬ (false = true) by decide)] at H
  obtain rfl := Option.some.inj H
  go_enter Tryz.func14, Tryz.ntmps14
  go_wp2_with (first | ((with_reducible refine gate_callee (f := 10) rfl ?_); refine goesL_ (some 6) rfl rfl Tryz.func10 (by kernel_rfl) rfl #[.slice A0 l0.length c0] rfl (zz21_1_) ?_; (with_reducible refine (impl_ExprValid.calls k _ _ l0 false _ ?side1 ?side2 (zz21_7_ HTAB.out HB.out) A3.out).mono ?_); (case side1 => exact zz21_5_ HR0.out); (case side2 => exact HC0.out); rintro e w11 ⟨rfl, hb⟩; refine ⟨_, rfl, ?_⟩; have n0_ := Aside0.mk (below_step (zz21_2_ HB.out) hb); clear HB; have HB := n0_; clear n0_; (try clear hb); (try clear hb2); (try clear hk); (try clear hi)))
  go_ret
  exact ⟨_, by first | rfl | (simp [errW_none, errW_some] <;> rfl) | (simp [*, errW_none, errW_some] <;> rfl), by first | exact Kd.R_nil _ _ _ _ _ | exact Kd.N_nil _ _ _ _ _ | exact Kd.V_nil _ _ _ _ _ | exact Kd.Q_nil _ _ _ _ _ | exact Kd.S_nil _ _ _ _ _, zz21_2_ HB.out⟩

end Go.Proofs.YtifeiepociopoaaGreatDoor.PEd
