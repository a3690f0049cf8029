-- Written for this session by its program hprint.py over the kit's print: functions, and contracts that the walk of the Go code proves.
import Derived.Test.YtifeiepociopoaaGreatDoorPExx0
import Derived.Test.YtifeiepociopoaaGreatDoorPExx1
import Derived.Test.YtifeiepociopoaaGreatDoorPExx4
import Derived.Test.YtifeiepociopoaaGreatDoorPExx5
import Derived.Test.YtifeiepociopoaaGreatDoorPExx13
import Derived.Test.YtifeiepociopoaaGreatDoorPExx14
import Derived.Test.YtifeiepociopoaaGreatDoorPExx21
namespace Go.Proofs.YtifeiepociopoaaGreatDoor.PEx
open Go.RowKit Go.Proofs.YtifeiepociopoaaGreatDoor.Hand Go.Proofs.YtifeiepociopoaaGreatDoorW.PrintWords Go.Proofs.YtifeiepociopoaaGreatDoorW.PrintLast Go.Proofs.YtifeiepociopoaaGreatDoorW.PrintMore
attribute [local go_sem] max2_int min2_int max_two min_two max_three min_three max_four min_four   -- for this text's walks alone
set_option linter.unusedVariables false
set_option linter.unusedSimpArgs false

/-! ### spec_ExprValid: function 16 -/
theorem zz22_2_ {P1 Q : Prop} (h1 : P1) (f : P1 → Q := by intro zq1_; repeat (first | (with_reducible first | exact zq1_ | apply below_alloc | apply pw_below_drewN | apply below_drew1) | exact zq1_)) : Q := f h1
theorem zz22_0_ {Q : Prop} (f : Q := by first | (with_reducible assumption) | assumption) : Q := f
theorem zz22_1_ {Q : Prop} (f : Q := by (try simp only [List.map_toArray, List.map_cons, List.map_nil]); first | done | rfl | (simp only [List.length_drop, List.length_take]; rfl)) : Q := f
theorem zz22_3_ {P1 P2 Q : Prop} (h1 : P1) (h2 : P2) (f : P1 → P2 → Q := by intro zq1_ zq2_; repeat (first | exact (Kd.C_below zq1_ (by repeat (first | (with_reducible first | exact zq2_ | apply below_alloc | apply pw_below_drewN | apply below_drew1) | exact zq2_))) | (with_reducible refine Kd.C_alloc ?_ _) | (with_reducible refine Kd.C_drewN ?_ _) | (with_reducible refine Kd.C_drew ?_))) : Q := f h1 h2
def spec_ExprValid.l0 : Nat → List (S35) → Int → Option (Bool)
 | 0, _, _ => none
 | k + 1, x0, x3 => if x3 < (x0.length : Int) then (if 0 ≤ x3 then ((spec_CellValid.f k ((rd_T35 x0 x3).f0) ((rd_T35 x0 x3).f1) ((rd_T35 x0 x3).f2)).bind fun t445 => (if t445 = true then (spec_ExprValid.l0 k x0 (wrap64 (x3 + 1))) else (some false))) else (none)) else ((spec_l1In.f (x0.length : Int) 1 60).bind fun t446 => (if t446 = true then ((spec_l5End.f k x0 0).bind fun t447 => (if t447 = (x0.length : Int) then ((spec_l5Depth.f k x0 0).bind fun t448 => (some (decide (t448 ≤ 12)))) else (some false))) else (some false)))
def spec_ExprValid.f (k : Nat) (l0 : List (S35)) : Option (Bool) := spec_ExprValid.l0 k l0 0
theorem spec_ExprValid.mono_l : ∀ k, (∀ y0 y1, LeO (spec_ExprValid.l0 k y0 y1) (spec_ExprValid.l0 (k + 1) y0 y1))
 | 0 => fun _ _ r h => by simp [spec_ExprValid.l0] at h
 | k + 1 => by
  have ih0 := spec_ExprValid.mono_l k
  ·intro y0 y1
   unfold spec_ExprValid.l0
   repeat' first
   | (with_reducible exact ih0 _ _)
   | (with_reducible exact spec_CellValid.mono _ _ _ _)
   | (with_reducible exact spec_l5Depth.mono _ _ _)
   | (with_reducible exact spec_l5End.mono _ _ _)
   | (with_reducible exact LeO.refl _)
   | (with_reducible exact LeO.none _)
   | (with_reducible refine LeO.ite ?_ ?_)
   | (with_reducible refine LeO.bind ?_ (fun _ => ?_))
   | exact ih0 _ _
   | exact spec_CellValid.mono _ _ _ _
   | exact spec_l5Depth.mono _ _ _
   | exact spec_l5End.mono _ _ _
   | exact LeO.none _
   | refine LeO.ite ?_ ?_
   | refine LeO.bind ?_ (fun _ => ?_)
theorem spec_ExprValid.mono : ∀ a0 k, LeO (spec_ExprValid.f k a0) (spec_ExprValid.f (k + 1) a0) := by
 intro a0 k
 have ih0 := spec_ExprValid.mono_l k
 unfold spec_ExprValid.f
 repeat' first
   | (with_reducible exact ih0 _ _)
   | (with_reducible exact spec_CellValid.mono _ _ _ _)
   | (with_reducible exact spec_l5Depth.mono _ _ _)
   | (with_reducible exact spec_l5End.mono _ _ _)
   | (with_reducible exact LeO.refl _)
   | (with_reducible exact LeO.none _)
   | (with_reducible refine LeO.ite ?_ ?_)
   | (with_reducible refine LeO.bind ?_ (fun _ => ?_))
   | exact ih0 _ _
   | exact spec_CellValid.mono _ _ _ _
   | exact spec_l5Depth.mono _ _ _
   | exact spec_l5End.mono _ _ _
   | exact LeO.none _
   | refine LeO.ite ?_ ?_
   | refine LeO.bind ?_ (fun _ => ?_)
set_option maxHeartbeats 8000000 in
set_option maxRecDepth 100000 in
theorem spec_ExprValid.calls (k : Nat) (A0 : Option Addr) (c0 : Nat) (l0 : List (S35)) (r : Bool) (w : World) (hr0 : Kd.C k35 w A0 l0.length l0) (hc0 : l0.length ≤ c0) (h : spec_ExprValid.f k l0 = some r) :
  Calls Tryz.prog 16 #[.slice A0 l0.length c0] w fun e w' => e = .returned (.bool r) ∧ Below w.heap.size w w' := by
 have hu35 := Tryz.underlying35
 have HR0 := Aside0.mk hr0
 have HC0 := Aside0.mk hc0
 clear hr0 hc0
 have HB := Aside0.mk (Below.refl w.heap.size w)
 have H : (spec_ExprValid.l0 k l0 0) = some r := h
 clear h
 have H' := Aside0.mk H
 clear H
 go_enter Tryz.func16, Tryz.ntmps16
 go_wp2
 go_loopg [3] k (fun kq v3 w' => ∃ (x3_1 : Int), v3 = .int .i64 x3_1 ∧ Aside0 (spec_ExprValid.l0 kq l0 x3_1 = some r) ∧ Aside0 (kq ≤ k) ∧ Aside0 (Below w.heap.size w w'))
 case atStart => exact ⟨(0), (by first | rfl | (simp; done) | (simp [*]; done)), H', ⟨Nat.le_refl _⟩, ⟨zz22_2_ HB.out⟩⟩
 case round =>
  clear H'
  try clear c1
  obtain ⟨x3_1, rfl, HA, HK1, HB⟩ := hrel
  cases gk with
  | zero => exact absurd HA.out (by simp [spec_ExprValid.l0])
  | succ k1 =>
   have H := HA.out
   clear HA
   simp only [spec_ExprValid.l0] at H
   by_cases c2 : x3_1 < (l0.length : Int)
   ·rw [if_pos c2] at H
    have c2b0 : decide (x3_1 < (l0.length : Int)) = true := decide_eq_true c2
    clear c2
    by_cases c3 : 0 ≤ x3_1
    ·rw [if_pos c3] at H
     have c3b0 : decide (0 ≤ x3_1) = true := decide_eq_true c3
     clear c3
     replace H := Option.bind_eq_some_iff.mp H
     obtain ⟨t445, A40, H⟩ := H
     try dsimp only at H
     have A4 := Aside0.mk A40
     clear A40
     by_cases c5 : t445 = true
     ·subst c5
      rw [if_pos rfl] at H
      have H' := Aside0.mk H
      clear H
      have p444 : 0 ≤ (x3_1 : Int) := of_decide_eq_true (zz22_0_)
      have q444 : x3_1 < (l0.length : Int) := of_decide_eq_true (zz22_0_)
      obtain ⟨ad444, e444, hx444_0, hx444_1, hx444_2⟩ := at_T35 HR0.out x3_1 p444 q444
      cases e444
      replace hx444_0 := (HB.out.cell (World.block_lt_of_cell? w _ hx444_0)).trans hx444_0
      replace hx444_1 := (HB.out.cell (World.block_lt_of_cell? w _ hx444_1)).trans hx444_1
      replace hx444_2 := (HB.out.cell (World.block_lt_of_cell? w _ hx444_2)).trans hx444_2
      replace p444 := eq_true p444
      replace q444 := eq_true q444
      go_wp2_with (first | ((with_reducible refine gate_callee (f := 29) rfl ?_); refine goesL_ (some 14) rfl rfl Tryz.func29 (by kernel_rfl) rfl #[.agg #[.int .i64 ((rd_T35 l0 x3_1).f0), .string ((rd_T35 l0 x3_1).f1), .int .i64 ((rd_T35 l0 x3_1).f2)]] rfl (zz22_1_) ?_; (with_reducible refine (spec_CellValid.calls k1 ((rd_T35 l0 x3_1).f0) ((rd_T35 l0 x3_1).f1) ((rd_T35 l0 x3_1).f2) true _ A4.out).mono ?_); rintro e w6 ⟨rfl, hb⟩; refine ⟨_, rfl, ?_⟩; have n0_ := Aside0.mk (below_step (zz22_2_ HB.out) hb); clear HB; have HB := n0_; clear n0_; (try clear hb); (try clear hb2); (try clear hk); (try clear hi)))
      go_roundg k1
      case measure => have := HK1.out; omega
      case rel => exact ⟨(wrap64 (x3_1 + 1)), (by first | rfl | (simp; done) | (simp [*]; done)), H', ⟨by have := HK1.out; omega⟩, ⟨zz22_2_ HB.out⟩⟩
     ·replace c5 := Bool.eq_false_iff.mpr c5
      subst c5
      rw [if_neg (show ¬ (false = true) by decide)] at H
      obtain rfl := Option.some.inj H
      have p444 : 0 ≤ (x3_1 : Int) := of_decide_eq_true (zz22_0_)
      have q444 : x3_1 < (l0.length : Int) := of_decide_eq_true (zz22_0_)
      obtain ⟨ad444, e444, hx444_0, hx444_1, hx444_2⟩ := at_T35 HR0.out x3_1 p444 q444
      cases e444
      replace hx444_0 := (HB.out.cell (World.block_lt_of_cell? w _ hx444_0)).trans hx444_0
      replace hx444_1 := (HB.out.cell (World.block_lt_of_cell? w _ hx444_1)).trans hx444_1
      replace hx444_2 := (HB.out.cell (World.block_lt_of_cell? w _ hx444_2)).trans hx444_2
      replace p444 := eq_true p444
      replace q444 := eq_true q444
      go_wp2_with (first | ((with_reducible refine gate_callee (f := 29) rfl ?_); refine goesL_ (some 14) rfl rfl Tryz.func29 (by kernel_rfl) rfl #[.agg #[.int .i64 ((rd_T35 l0 x3_1).f0), .string ((rd_T35 l0 x3_1).f1), .int .i64 ((rd_T35 l0 x3_1).f2)]] rfl (zz22_1_) ?_; (with_reducible refine (spec_CellValid.calls k1 ((rd_T35 l0 x3_1).f0) ((rd_T35 l0 x3_1).f1) ((rd_T35 l0 x3_1).f2) false _ A4.out).mono ?_); rintro e w7 ⟨rfl, hb⟩; refine ⟨_, rfl, ?_⟩; have n0_ := Aside0.mk (below_step (zz22_2_ HB.out) hb); clear HB; have HB := n0_; clear n0_; (try clear hb); (try clear hb2); (try clear hk); (try clear hi)))
      go_ret
      exact ⟨by first | rfl | (simp [errW_none, errW_some] <;> rfl) | (simp [*, errW_none, errW_some] <;> rfl), zz22_2_ HB.out⟩
    ·rw [if_neg c3] at H
     exact absurd H (by simp)
   ·rw [if_neg c2] at H
    have c2b0 : decide (x3_1 < (l0.length : Int)) = false := decide_eq_false c2
    clear c2
    replace H := Option.bind_eq_some_iff.mp H
    obtain ⟨t446, A80, H⟩ := H
    try dsimp only at H
    have A8 := Aside0.mk A80
    clear A80
    by_cases c9 : t446 = true
    ·subst c9
     rw [if_pos rfl] at H
     replace H := Option.bind_eq_some_iff.mp H
     obtain ⟨t447, A100, H⟩ := H
     try dsimp only at H
     have A10 := Aside0.mk A100
     clear A100
     by_cases c11 : t447 = (l0.length : Int)
     ·rw [if_pos c11] at H
      have c11b0 : (t447 == (l0.length : Int)) = true := beq_iff_eq.mpr c11
      have c11b1 : (t447 != (l0.length : Int)) = false := bne_eq_false_iff_eq.mpr c11
      clear c11
      replace H := Option.bind_eq_some_iff.mp H
      obtain ⟨t448, A120, H⟩ := H
      try dsimp only at H
      have A12 := Aside0.mk A120
      clear A120
      obtain rfl := Option.some.inj H
      go_wp2_with (first | ((with_reducible refine gate_callee (f := 21) rfl ?_); refine goesL_ (some 18) rfl rfl Tryz.func21 (by kernel_rfl) rfl #[.int .i64 (l0.length : Int), .int .i64 1, .int .i64 60] rfl (zz22_1_) ?_; (with_reducible refine (spec_l1In.calls (l0.length : Int) 1 60 true _ A8.out).mono ?_); rintro e w' ⟨rfl, ⟨nd, rfl⟩⟩; refine ⟨_, rfl, ?_⟩) | (go_at_call 22; (with_reducible refine (spec_l5End.calls k1 _ _ l0 0 t447 _ ?side1 ?side2 A10.out).mono ?_); (case side1 => exact zz22_3_ HR0.out HB.out); (case side2 => exact HC0.out); rintro e w13 ⟨rfl, hb⟩; have n0_ := Aside0.mk (below_step (zz22_2_ HB.out) hb); clear HB; have HB := n0_; clear n0_; (try clear hb); (try clear hb2); (try clear hk); (try clear hi)) | (go_at_call 27; (with_reducible refine (spec_l5Depth.calls k1 _ _ l0 0 t448 _ ?side1 ?side2 A12.out).mono ?_); (case side1 => repeat (first | exact (Kd.C_below HR0.out HB.out) | (with_reducible refine Kd.C_alloc ?_ _) | (with_reducible refine Kd.C_drewN ?_ _) | (with_reducible refine Kd.C_drew ?_))); (case side2 => exact HC0.out); rintro e w14 ⟨rfl, hb⟩; have n0_ := Aside0.mk (below_step (zz22_2_ HB.out) hb); clear HB; have HB := n0_; clear n0_; (try clear hb); (try clear hb2); (try clear hk); (try clear hi)))
      go_ret
      exact ⟨by first | rfl | (simp [errW_none, errW_some] <;> rfl) | (simp [*, errW_none, errW_some] <;> rfl), zz22_2_ HB.out⟩
     ·rw [if_neg c11] at H
      have c11b0 : (t447 == (l0.length : Int)) = false := beq_eq_false_iff_ne.mpr c11
      have c11b1 : (t447 != (l0.length : Int)) = true := bne_iff_ne.mpr c11
      obtain rfl := Option.some.inj H
      go_wp2_with (first | ((with_reducible refine gate_callee (f := 21) rfl ?_); refine goesL_ (some 18) rfl rfl Tryz.func21 (by kernel_rfl) rfl #[.int .i64 (l0.length : Int), .int .i64 1, .int .i64 60] rfl (zz22_1_) ?_; (with_reducible refine (spec_l1In.calls (l0.length : Int) 1 60 true _ A8.out).mono ?_); rintro e w' ⟨rfl, ⟨nd, rfl⟩⟩; refine ⟨_, rfl, ?_⟩) | (go_at_call 22; (with_reducible refine (spec_l5End.calls k1 _ _ l0 0 t447 _ ?side1 ?side2 A10.out).mono ?_); (case side1 => exact zz22_3_ HR0.out HB.out); (case side2 => exact HC0.out); rintro e w15 ⟨rfl, hb⟩; have n0_ := Aside0.mk (below_step (zz22_2_ HB.out) hb); clear HB; have HB := n0_; clear n0_; (try clear hb); (try clear hb2); (try clear hk); (try clear hi)))
      go_ret
      exact ⟨by first | rfl | (simp [errW_none, errW_some] <;> rfl) | (simp [*, errW_none, errW_some] <;> rfl), zz22_2_ HB.out⟩
    ·replace c9 := Bool.eq_false_iff.mpr c9
     subst c9
     rw [if_neg (show ¬ (false = true) by decide)] at H
     obtain rfl := Option.some.inj H
     go_wp2_with (first | ((with_reducible refine gate_callee (f := 21) rfl ?_); refine goesL_ (some 18) rfl rfl Tryz.func21 (by kernel_rfl) rfl #[.int .i64 (l0.length : Int), .int .i64 1, .int .i64 60] rfl (zz22_1_) ?_; (with_reducible refine (spec_l1In.calls (l0.length : Int) 1 60 false _ A8.out).mono ?_); rintro e w' ⟨rfl, ⟨nd, rfl⟩⟩; refine ⟨_, rfl, ?_⟩))
     go_ret
     exact ⟨by first | rfl | (simp [errW_none, errW_some] <;> rfl) | (simp [*, errW_none, errW_some] <;> rfl), zz22_2_ HB.out⟩

/-! ### spec_ExprEnd: function 8 -/
theorem zz22_4_ {P1 Q : Prop} (h1 : P1) (f : P1 → Q := by intro zq1_; repeat (first | exact zq1_ | (with_reducible refine Kd.C_alloc ?_ _) | (with_reducible refine Kd.C_drewN ?_ _) | (with_reducible refine Kd.C_drew ?_))) : Q := f h1
def spec_ExprEnd.f (k : Nat) (l0 : List (S35)) (a1 : Int) : Option (Int) := (spec_ExprValid.f k l0).bind fun t449 => (if t449 = true then ((spec_l1In.f a1 0 (wrap64 ((l0.length : Int) - 1))).bind fun t450 => (if t450 = true then ((spec_l5End.f k l0 a1).bind fun t451 => (some t451)) else (some (-1)))) else (some (-1)))
theorem spec_ExprEnd.mono : ∀ a0 a1 k, LeO (spec_ExprEnd.f k a0 a1) (spec_ExprEnd.f (k + 1) a0 a1) := by
 intro a0 a1 k
 unfold spec_ExprEnd.f
 repeat' first
   | (with_reducible exact spec_ExprValid.mono _ _)
   | (with_reducible exact spec_l5End.mono _ _ _)
   | (with_reducible exact LeO.refl _)
   | (with_reducible exact LeO.none _)
   | (with_reducible refine LeO.ite ?_ ?_)
   | (with_reducible refine LeO.bind ?_ (fun _ => ?_))
   | exact spec_ExprValid.mono _ _
   | exact spec_l5End.mono _ _ _
   | exact LeO.none _
   | refine LeO.ite ?_ ?_
   | refine LeO.bind ?_ (fun _ => ?_)
set_option maxHeartbeats 8000000 in
set_option maxRecDepth 100000 in
theorem spec_ExprEnd.calls (k : Nat) (A0 : Option Addr) (c0 : Nat) (l0 : List (S35)) (a1 : Int) (r : Int) (w : World) (hr0 : Kd.C k35 w A0 l0.length l0) (hc0 : l0.length ≤ c0) (h : spec_ExprEnd.f k l0 a1 = some r) :
  Calls Tryz.prog 8 #[.slice A0 l0.length c0, .int .i64 a1] w fun e w' => e = .returned (.int .i64 r) ∧ Below w.heap.size w w' := by
 have HR0 := Aside0.mk hr0
 have HC0 := Aside0.mk hc0
 clear hr0 hc0
 have HB := Aside0.mk (Below.refl w.heap.size w)
 have H : ((spec_ExprValid.f k l0).bind fun t449 => (if t449 = true then ((spec_l1In.f a1 0 (wrap64 ((l0.length : Int) - 1))).bind fun t450 => (if t450 = true then ((spec_l5End.f k l0 a1).bind fun t451 => (some t451)) else (some (-1)))) else (some (-1)))) = some r := h
 clear h
 replace H := Option.bind_eq_some_iff.mp H
 obtain ⟨t449, A30, H⟩ := H
 try dsimp only at H
 have A3 := Aside0.mk A30
 clear A30
 by_cases c4 : t449 = true
 ·subst c4
  rw [if_pos rfl] at H
  replace H := Option.bind_eq_some_iff.mp H
  obtain ⟨t450, A50, H⟩ := H
  try dsimp only at H
  have A5 := Aside0.mk A50
  clear A50
  by_cases c6 : t450 = true
  ·subst c6
   rw [if_pos rfl] at H
   replace H := Option.bind_eq_some_iff.mp H
   obtain ⟨t451, A70, H⟩ := H
   try dsimp only at H
   have A7 := Aside0.mk A70
   clear A70
   obtain rfl := Option.some.inj H
   go_enter Tryz.func8, Tryz.ntmps8
   go_wp2_with (first | ((with_reducible refine gate_callee (f := 16) rfl ?_); refine goesL_ (some 6) rfl rfl Tryz.func16 (by kernel_rfl) rfl #[.slice A0 l0.length c0] rfl (zz22_1_) ?_; (with_reducible refine (spec_ExprValid.calls k _ _ l0 true _ ?side1 ?side2 A3.out).mono ?_); (case side1 => exact zz22_4_ HR0.out); (case side2 => exact HC0.out); rintro e w8 ⟨rfl, hb⟩; refine ⟨_, rfl, ?_⟩; have n0_ := Aside0.mk (below_step (zz22_2_ HB.out) hb); clear HB; have HB := n0_; clear n0_; (try clear hb); (try clear hb2); (try clear hk); (try clear hi)) | (go_at_call 21; (with_reducible refine (spec_l1In.calls a1 0 (wrap64 ((l0.length : Int) - 1)) true _ A5.out).mono ?_); rintro e w' ⟨rfl, ⟨nd, rfl⟩⟩) | ((with_reducible refine gate_callee (f := 22) rfl ?_); refine goesL_ (some 18) rfl rfl Tryz.func22 (by kernel_rfl) rfl #[.slice A0 l0.length c0, .int .i64 a1] rfl (zz22_1_) ?_; (with_reducible refine (spec_l5End.calls k _ _ l0 a1 t451 _ ?side1 ?side2 A7.out).mono ?_); (case side1 => exact zz22_3_ HR0.out HB.out); (case side2 => exact HC0.out); rintro e w9 ⟨rfl, hb⟩; refine ⟨_, rfl, ?_⟩; have n0_ := Aside0.mk (below_step (zz22_2_ HB.out) hb); clear HB; have HB := n0_; clear n0_; (try clear hb); (try clear hb2); (try clear hk); (try clear hi)))
   go_ret
   exact ⟨by first | rfl | (simp [errW_none, errW_some] <;> rfl) | (simp [*, errW_none, errW_some] <;> rfl), zz22_2_ HB.out⟩
  ·replace c6 := Bool.eq_false_iff.mpr c6
   subst c6
   rw [if_neg (show ¬ (false = true) by decide)] at H
   obtain rfl := Option.some.inj H
   go_enter Tryz.func8, Tryz.ntmps8
   go_wp2_with (first | ((with_reducible refine gate_callee (f := 16) rfl ?_); refine goesL_ (some 6) rfl rfl Tryz.func16 (by kernel_rfl) rfl #[.slice A0 l0.length c0] rfl (zz22_1_) ?_; (with_reducible refine (spec_ExprValid.calls k _ _ l0 true _ ?side1 ?side2 A3.out).mono ?_); (case side1 => exact zz22_4_ HR0.out); (case side2 => exact HC0.out); rintro e w10 ⟨rfl, hb⟩; refine ⟨_, rfl, ?_⟩; have n0_ := Aside0.mk (below_step (zz22_2_ HB.out) hb); clear HB; have HB := n0_; clear n0_; (try clear hb); (try clear hb2); (try clear hk); (try clear hi)) | (go_at_call 21; (with_reducible refine (spec_l1In.calls a1 0 (wrap64 ((l0.length : Int) - 1)) false _ A5.out).mono ?_); rintro e w' ⟨rfl, ⟨nd, rfl⟩⟩))
   go_ret
   exact ⟨by first | rfl | (simp [errW_none, errW_some] <;> rfl) | (simp [*, errW_none, errW_some] <;> rfl), zz22_2_ HB.out⟩
 ·replace c4 := Bool.eq_false_iff.mpr c4
  subst c4
  rw [if_neg (show ¬ (false = true) by decide)] at H
  obtain rfl := Option.some.inj H
  go_enter Tryz.func8, Tryz.ntmps8
  go_wp2_with (first | ((with_reducible refine gate_callee (f := 16) rfl ?_); refine goesL_ (some 6) rfl rfl Tryz.func16 (by kernel_rfl) rfl #[.slice A0 l0.length c0] rfl (zz22_1_) ?_; (with_reducible refine (spec_ExprValid.calls k _ _ l0 false _ ?side1 ?side2 A3.out).mono ?_); (case side1 => exact zz22_4_ HR0.out); (case side2 => exact HC0.out); rintro e w11 ⟨rfl, hb⟩; refine ⟨_, rfl, ?_⟩; have n0_ := Aside0.mk (below_step (zz22_2_ HB.out) hb); clear HB; have HB := n0_; clear n0_; (try clear hb); (try clear hb2); (try clear hk); (try clear hi)))
  go_ret
  exact ⟨by first | rfl | (simp [errW_none, errW_some] <;> rfl) | (simp [*, errW_none, errW_some] <;> rfl), zz22_2_ HB.out⟩

/-! ### laws_alive: function 9 -/
def laws_alive.f (k : Nat)  : Option (Bool) := (impl_TextValid.f k (⟨#[97]⟩ : ByteArray)).bind fun t452 => (some t452)
theorem laws_alive.mono : ∀ k, LeO (laws_alive.f k ) (laws_alive.f (k + 1) ) := by
 intro  k
 unfold laws_alive.f
 repeat' first
   | (with_reducible exact impl_TextValid.mono _ _)
   | (with_reducible exact LeO.refl _)
   | (with_reducible exact LeO.none _)
   | (with_reducible refine LeO.ite ?_ ?_)
   | (with_reducible refine LeO.bind ?_ (fun _ => ?_))
   | exact impl_TextValid.mono _ _
   | exact LeO.none _
   | refine LeO.ite ?_ ?_
   | refine LeO.bind ?_ (fun _ => ?_)
set_option maxHeartbeats 8000000 in
set_option maxRecDepth 100000 in
theorem laws_alive.calls (k : Nat)  (r : Bool) (w : World) (h : laws_alive.f k  = some r) :
  Calls Tryz.prog 9 #[] w fun e w' => e = .returned (.bool r) ∧ Drawn0 w w' := by
 have H : ((impl_TextValid.f k (⟨#[97]⟩ : ByteArray)).bind fun t452 => (some t452)) = some r := h
 clear h
 replace H := Option.bind_eq_some_iff.mp H
 obtain ⟨t452, A10, H⟩ := H
 try dsimp only at H
 have A1 := Aside0.mk A10
 clear A10
 obtain rfl := Option.some.inj H
 go_enter Tryz.func9, Tryz.ntmps9
 go_wp2_with (first | ((with_reducible refine gate_callee (f := 23) rfl ?_); refine goesL_ (some 1) rfl rfl Tryz.func23 (by kernel_rfl) rfl #[.string (⟨#[97]⟩ : ByteArray)] rfl (zz22_1_) ?_; (with_reducible refine (impl_TextValid.calls k (⟨#[97]⟩ : ByteArray) t452 _ A1.out).mono ?_); rintro e w' ⟨rfl, ⟨nd, rfl⟩⟩; refine ⟨_, rfl, ?_⟩))
 go_ret
 exact ⟨by first | rfl | (simp; done) | (simp [*]; done), by repeat (first | exact Drawn0.refl _ | apply Drawn0.step)⟩

/-! ### laws_FnExprEnd: function 3 -/
theorem zz22_5_ {P1 P2 Q : Prop} (h1 : P1) (h2 : P2) (f : P1 → P2 → Q := by intro zq1_ zq2_; first | exact zq1_ | exact tab_at zq1_ (by repeat (first | (with_reducible first | exact zq2_ | apply below_alloc | apply pw_below_drewN | apply below_drew1) | exact zq2_))) : Q := f h1 h2
theorem zz22_6_ {P1 Q : Prop} (h1 : P1) (f : P1 → Q := by intro zq1_; repeat (first | exact (Kd.Q_reads' zq1_).2.2 | (with_reducible refine Kd.C_alloc ?_ _) | (with_reducible refine Kd.C_drewN ?_ _) | (with_reducible refine Kd.C_drew ?_))) : Q := f h1
theorem zz22_7_ {P1 Q : Prop} (h1 : P1) (f : P1 → Q := by intro zq1_; (with_reducible repeat (first | apply Kd.Q_alloc | apply Kd.Q_drewN | apply Kd.Q_drew)); exact zq1_) : Q := f h1
theorem zz22_8_ {P1 Q : Prop} (h1 : P1) (f : P1 → Q := by intro zq1_; repeat (first | (with_reducible exact zq1_) | (with_reducible refine Kd.C_alloc ?_ _) | (with_reducible refine Kd.C_drewN ?_ _) | (with_reducible refine Kd.C_drew ?_) | exact zq1_)) : Q := f h1
def laws_FnExprEnd.f (k : Nat) (l0 : List Int) : Option (Bool) := if (l0.length : Int) > 1048576 then (some true) else ((spec_DrawExprEnd.f k l0).bind fun bt453 => ((impl_ExprEnd.f k bt453.1 bt453.2).bind fun t457 => ((spec_ExprEnd.f k bt453.1 bt453.2).bind fun t458 => (if t457 = t458 then (if t457 < 0 then (if t457 = (-1) then ((laws_alive.f k).bind fun t459 => (some t459)) else (none)) else (if bt453.2 ≥ 0 then (if t457 > bt453.2 then (if t457 ≤ (bt453.1.length : Int) then (if 0 ≤ bt453.2 then (if bt453.2 ≤ t457 then ((impl_ExprValid.f k ((bt453.1.take (t457 : Int).toNat).drop (bt453.2 : Int).toNat)).bind fun t464 => (if t464 = true then ((impl_ExprEnd.f k bt453.1 0).bind fun t465 => (some (t465 == (bt453.1.length : Int)))) else (none))) else (none)) else (none)) else (none)) else (none)) else (none))) else (none)))))
theorem laws_FnExprEnd.mono : ∀ a0 k, LeO (laws_FnExprEnd.f k a0) (laws_FnExprEnd.f (k + 1) a0) := by
 intro a0 k
 unfold laws_FnExprEnd.f
 repeat' first
   | (with_reducible exact impl_ExprEnd.mono _ _ _)
   | (with_reducible exact impl_ExprValid.mono _ _)
   | (with_reducible exact laws_alive.mono _)
   | (with_reducible exact spec_DrawExprEnd.mono _ _)
   | (with_reducible exact spec_ExprEnd.mono _ _ _)
   | (with_reducible exact LeO.refl _)
   | (with_reducible exact LeO.none _)
   | (with_reducible refine LeO.ite ?_ ?_)
   | (with_reducible refine LeO.bind ?_ (fun _ => ?_))
   | exact impl_ExprEnd.mono _ _ _
   | exact impl_ExprValid.mono _ _
   | exact laws_alive.mono _
   | exact spec_DrawExprEnd.mono _ _
   | exact spec_ExprEnd.mono _ _ _
   | exact LeO.none _
   | refine LeO.ite ?_ ?_
   | refine LeO.bind ?_ (fun _ => ?_)
set_option maxHeartbeats 8000000 in
set_option maxRecDepth 100000 in
theorem laws_FnExprEnd.calls (k : Nat) (A0 : Option Addr) (c0 : Nat) (l0 : List Int) (r : Bool) (w : World) (hr0 : Kd.C (Kd.int .u8) w A0 l0.length l0) (hc0 : l0.length ≤ c0) (htab : Tab10 w) (h : laws_FnExprEnd.f k l0 = some r) :
  Calls Tryz.prog 3 #[.slice A0 l0.length c0] w fun e w' => e = .returned (.bool r) ∧ Below w.heap.size w w' := by
 have HTAB := Aside0.mk htab
 clear htab
 have HR0 := Aside0.mk hr0
 have HC0 := Aside0.mk hc0
 clear hr0 hc0
 have HB := Aside0.mk (Below.refl w.heap.size w)
 have H : (if (l0.length : Int) > 1048576 then (some true) else ((spec_DrawExprEnd.f k l0).bind fun bt453 => ((impl_ExprEnd.f k bt453.1 bt453.2).bind fun t457 => ((spec_ExprEnd.f k bt453.1 bt453.2).bind fun t458 => (if t457 = t458 then (if t457 < 0 then (if t457 = (-1) then ((laws_alive.f k).bind fun t459 => (some t459)) else (none)) else (if bt453.2 ≥ 0 then (if t457 > bt453.2 then (if t457 ≤ (bt453.1.length : Int) then (if 0 ≤ bt453.2 then (if bt453.2 ≤ t457 then ((impl_ExprValid.f k ((bt453.1.take (t457 : Int).toNat).drop (bt453.2 : Int).toNat)).bind fun t464 => (if t464 = true then ((impl_ExprEnd.f k bt453.1 0).bind fun t465 => (some (t465 == (bt453.1.length : Int)))) else (none))) else (none)) else (none)) else (none)) else (none)) else (none))) else (none)))))) = some r := h
 clear h
 by_cases c2 : (l0.length : Int) > 1048576
 ·rw [if_pos c2] at H
  have c2b0 : decide (1048576 < (l0.length : Int)) = true := decide_eq_true c2
  have c2b1 : decide (1048576 < l0.length) = true := decide_eq_true (by omega)
  clear c2
  obtain rfl := Option.some.inj H
  go_enter Tryz.func3, Tryz.ntmps3
  go_wp2
  go_ret
  exact ⟨by first | rfl | (simp [errW_none, errW_some] <;> rfl) | (simp [*, errW_none, errW_some] <;> rfl), zz22_2_ HB.out⟩
 ·rw [if_neg c2] at H
  have c2b0 : decide (1048576 < (l0.length : Int)) = false := decide_eq_false c2
  have c2b1 : decide (1048576 < l0.length) = false := decide_eq_false (by omega)
  clear c2
  replace H := Option.bind_eq_some_iff.mp H
  obtain ⟨⟨t453, t454⟩, A30, H⟩ := H
  try dsimp only at H
  have A3 := Aside0.mk A30
  clear A30
  replace H := Option.bind_eq_some_iff.mp H
  obtain ⟨t457, A40, H⟩ := H
  try dsimp only at H
  have A4 := Aside0.mk A40
  clear A40
  replace H := Option.bind_eq_some_iff.mp H
  obtain ⟨t458, A50, H⟩ := H
  try dsimp only at H
  have A5 := Aside0.mk A50
  clear A50
  by_cases c6 : t457 = t458
  ·rw [if_pos c6] at H
   have c6b0 : (t457 == t458) = true := beq_iff_eq.mpr c6
   have c6b1 : (t457 != t458) = false := bne_eq_false_iff_eq.mpr c6
   clear c6
   by_cases c7 : t457 < 0
   ·rw [if_pos c7] at H
    have c7b0 : decide (t457 < 0) = true := decide_eq_true c7
    clear c7
    by_cases c8 : t457 = (-1)
    ·rw [if_pos c8] at H
     have c8b0 : (t457 == (-1)) = true := beq_iff_eq.mpr c8
     have c8b1 : (t457 != (-1)) = false := bne_eq_false_iff_eq.mpr c8
     clear c8
     replace H := Option.bind_eq_some_iff.mp H
     obtain ⟨t459, A90, H⟩ := H
     try dsimp only at H
     have A9 := Aside0.mk A90
     clear A90
     obtain rfl := Option.some.inj H
     go_enter Tryz.func3, Tryz.ntmps3
     go_wp2_with (first | ((with_reducible refine gate_callee (f := 6) rfl ?_); refine goesL_ (some 11) rfl rfl Tryz.func6 (by kernel_rfl) rfl #[.slice A0 l0.length c0] rfl (zz22_1_) ?_; (with_reducible refine (spec_DrawExprEnd.calls k _ _ l0 t453 t454 _ ?side1 ?side2 A3.out).mono ?_); (case side1 => exact zz22_4_ HR0.out); (case side2 => exact HC0.out); rintro e w10 ⟨v455, rfl, ho0, hb⟩; refine ⟨_, rfl, ?_⟩; have n0_ := Aside0.mk (Kd.Q_lower ho0 (below_size (zz22_2_ HB.out))); have n1_ := Aside0.mk (below_step (zz22_2_ HB.out) hb); clear HB; have HO456 := n0_; have HB := n1_; clear n0_ n1_; (try clear hb); (try clear hb2); (try clear hk); (try clear hi); (try clear ho0); obtain ⟨Ao11, co11, eo11, _⟩ := Kd.Q_slice HO456.out; subst eo11) | ((with_reducible refine gate_callee (f := 7) rfl ?_); refine goesL_ (some 16) rfl rfl Tryz.func7 (by kernel_rfl) rfl #[.slice Ao11 t453.length co11, .int .i64 t454] rfl (zz22_1_) ?_; (with_reducible refine (impl_ExprEnd.calls k _ _ t453 t454 t457 _ ?side1 ?side2 (zz22_5_ HTAB.out HB.out) A4.out).mono ?_); (case side1 => exact zz22_6_ HO456.out); (case side2 => exact (Kd.Q_reads' HO456.out).2.1); rintro e w12 ⟨rfl, hb⟩; refine ⟨_, rfl, ?_⟩; have n0_ := Aside0.mk (Kd.Q_below (zz22_7_ HO456.out) hb); have n1_ := Aside0.mk (below_step (zz22_2_ HB.out) hb); clear HO456; clear HB; have HO456 := n0_; have HB := n1_; clear n0_ n1_; (try clear hb); (try clear hb2); (try clear hk); (try clear hi)) | ((with_reducible refine gate_callee (f := 8) rfl ?_); refine goesL_ (some 20) rfl rfl Tryz.func8 (by kernel_rfl) rfl #[.slice Ao11 t453.length co11, .int .i64 t454] rfl (zz22_1_) ?_; (with_reducible refine (spec_ExprEnd.calls k _ _ t453 t454 t458 _ ?side1 ?side2 A5.out).mono ?_); (case side1 => exact zz22_6_ HO456.out); (case side2 => exact (Kd.Q_reads' HO456.out).2.1); rintro e w13 ⟨rfl, hb⟩; refine ⟨_, rfl, ?_⟩; have n0_ := Aside0.mk (Kd.Q_below (zz22_7_ HO456.out) hb); have n1_ := Aside0.mk (below_step (zz22_2_ HB.out) hb); clear HO456; clear HB; have HO456 := n0_; have HB := n1_; clear n0_ n1_; (try clear hb); (try clear hb2); (try clear hk); (try clear hi)) | (go_at_call 9; (with_reducible refine (laws_alive.calls k  t459 _ A9.out).mono ?_); rintro e w' ⟨rfl, ⟨nd, rfl⟩⟩))
     go_ret
     exact ⟨by first | rfl | (simp [errW_none, errW_some] <;> rfl) | (simp [*, errW_none, errW_some] <;> rfl), zz22_2_ HB.out⟩
    ·rw [if_neg c8] at H
     exact absurd H (by simp)
   ·rw [if_neg c7] at H
    have c7b0 : decide (t457 < 0) = false := decide_eq_false c7
    clear c7
    by_cases c14 : t454 ≥ 0
    ·rw [if_pos c14] at H
     have c14b0 : decide (0 ≤ t454) = true := decide_eq_true c14
     clear c14
     by_cases c15 : t457 > t454
     ·rw [if_pos c15] at H
      have c15b0 : decide (t454 < t457) = true := decide_eq_true c15
      clear c15
      by_cases c16 : t457 ≤ (t453.length : Int)
      ·rw [if_pos c16] at H
       have c16b0 : decide (t457 ≤ (t453.length : Int)) = true := decide_eq_true c16
       clear c16
       by_cases c17 : 0 ≤ t454
       ·rw [if_pos c17] at H
        have c17b0 := eq_true c17
        have c17b1 : decide (0 ≤ t454) = true := decide_eq_true c17
        clear c17
        by_cases c18 : t454 ≤ t457
        ·rw [if_pos c18] at H
         have c18b0 := eq_true c18
         have c18b1 : decide (t454 ≤ t457) = true := decide_eq_true c18
         clear c18
         have c19b0 := eq_true (of_decide_eq_true (zz22_0_) : t457 ≤ (t453.length : Int))
         obtain ⟨y460, hy460⟩ : ∃ y_ : List (S35), y_ = ((t453.take (t457 : Int).toNat).drop (t454 : Int).toNat) := ⟨_, rfl⟩
         replace H : ((impl_ExprValid.f k y460).bind fun t464 => (if t464 = true then ((impl_ExprEnd.f k t453 0).bind fun t465 => (some (t465 == (t453.length : Int)))) else (none))) = some r := by first | (rw [hy460]; with_reducible exact H) | (have H2_ := (Option.bind_some _ _).symm.trans H; rw [hy460]; with_reducible exact H2_) | (have H2_ := (Option.bind_some _ _).symm.trans H; with_reducible exact H2_) | with_reducible exact H | (rw [hy460]; exact H) | exact H
         have Ny460 := Aside0.mk hy460
         clear hy460
         replace H := Option.bind_eq_some_iff.mp H
         obtain ⟨t464, A200, H⟩ := H
         try dsimp only at H
         have A20 := Aside0.mk A200
         clear A200
         by_cases c21 : t464 = true
         ·subst c21
          rw [if_pos rfl] at H
          replace H := Option.bind_eq_some_iff.mp H
          obtain ⟨t465, A220, H⟩ := H
          try dsimp only at H
          have A22 := Aside0.mk A220
          clear A220
          obtain rfl := Option.some.inj H
          go_enter Tryz.func3, Tryz.ntmps3
          go_wp2_with (first | ((with_reducible refine gate_callee (f := 6) rfl ?_); refine goesL_ (some 11) rfl rfl Tryz.func6 (by kernel_rfl) rfl #[.slice A0 l0.length c0] rfl (zz22_1_) ?_; (with_reducible refine (spec_DrawExprEnd.calls k _ _ l0 t453 t454 _ ?side1 ?side2 A3.out).mono ?_); (case side1 => exact zz22_4_ HR0.out); (case side2 => exact HC0.out); rintro e w23 ⟨v455, rfl, ho0, hb⟩; refine ⟨_, rfl, ?_⟩; have n0_ := Aside0.mk (Kd.Q_lower ho0 (below_size (zz22_2_ HB.out))); have n1_ := Aside0.mk (below_step (zz22_2_ HB.out) hb); clear HB; have HO456 := n0_; have HB := n1_; clear n0_ n1_; (try clear hb); (try clear hb2); (try clear hk); (try clear hi); (try clear ho0); obtain ⟨Ao24, co24, eo24, _⟩ := Kd.Q_slice HO456.out; subst eo24) | ((with_reducible refine gate_callee (f := 7) rfl ?_); refine goesL_ (some 16) rfl rfl Tryz.func7 (by kernel_rfl) rfl #[.slice Ao24 t453.length co24, .int .i64 t454] rfl (zz22_1_) ?_; (with_reducible refine (impl_ExprEnd.calls k _ _ t453 t454 t457 _ ?side1 ?side2 (zz22_5_ HTAB.out HB.out) A4.out).mono ?_); (case side1 => exact zz22_6_ HO456.out); (case side2 => exact (Kd.Q_reads' HO456.out).2.1); rintro e w25 ⟨rfl, hb⟩; refine ⟨_, rfl, ?_⟩; have n0_ := Aside0.mk (Kd.Q_below (zz22_7_ HO456.out) hb); have n1_ := Aside0.mk (below_step (zz22_2_ HB.out) hb); clear HO456; clear HB; have HO456 := n0_; have HB := n1_; clear n0_ n1_; (try clear hb); (try clear hb2); (try clear hk); (try clear hi)) | ((with_reducible refine gate_callee (f := 8) rfl ?_); refine goesL_ (some 20) rfl rfl Tryz.func8 (by kernel_rfl) rfl #[.slice Ao24 t453.length co24, .int .i64 t454] rfl (zz22_1_) ?_; (with_reducible refine (spec_ExprEnd.calls k _ _ t453 t454 t458 _ ?side1 ?side2 A5.out).mono ?_); (case side1 => exact zz22_6_ HO456.out); (case side2 => exact (Kd.Q_reads' HO456.out).2.1); rintro e w26 ⟨rfl, hb⟩; refine ⟨_, rfl, ?_⟩; have n0_ := Aside0.mk (Kd.Q_below (zz22_7_ HO456.out) hb); have n1_ := Aside0.mk (below_step (zz22_2_ HB.out) hb); clear HO456; clear HB; have HO456 := n0_; have HB := n1_; clear n0_ n1_; (try clear hb); (try clear hb2); (try clear hk); (try clear hi); have q27 : (t457 : Int) ≤ ((t453.length : Int) : Int) := of_decide_eq_true (zz22_0_); obtain ⟨i027, hi027, _, hsz27, _⟩ := info_parts info35; have hroom27 : t453.length ≤ co24 := (Kd.Q_reads' HO456.out).2.1; have hC27 : Kd.C k35 _ Ao24 t453.length t453 := (Kd.Q_reads' HO456.out).2.2; have ql27 : (t454 : Int) ≤ (t457 : Int) := of_decide_eq_true (zz22_0_); have q027 : (0 : Int) ≤ (t454 : Int) := of_decide_eq_true (zz22_0_); have hcut27 := cut_mid (P := Tryz.prog) 23 35 .i64 .i64 Tryz.underlying23 hi027 3 hsz27 Ao24 t453.length co24 t454 t457 q027 ql27 q27 hroom27; have hr27 := Kd.C_mid (lo := (t454 : Int).toNat) (hi := (t457 : Int).toNat) (c := co24) hC27 (by omega) (by omega) hroom27; obtain ⟨A27, hA27⟩ : ∃ A1, A1 = (if co24 = (t454 : Int).toNat then Ao24 else (Ao24 : Option Addr).map (·.add ((t454 : Int).toNat * 3))) := ⟨_, rfl⟩; obtain ⟨c27, hc27⟩ : ∃ c1, c1 = co24 - (t454 : Int).toNat := ⟨_, rfl⟩; have hy27 : y460.length = (t457 : Int).toNat - (t454 : Int).toNat := (by rw [Ny460.out, List.length_drop, List.length_take] <;> omega); rw [show ((t453).take (t457 : Int).toNat).drop (t454 : Int).toNat = y460 from Ny460.out.symm] at hr27; replace hr27 : Kd.C k35 _ A27 y460.length y460 := (by rw [hA27]; exact hr27); rw [← hy27, ← hA27, ← hc27] at hcut27; have HR463 := Aside0.mk hr27; have HC463 := Aside0.mk (show y460.length ≤ c27 from by rw [hy27, hc27]; exact Nat.sub_le_sub_right (Nat.le_trans (by omega) hroom27) _); clear hr27 hC27 hroom27 hi027 hsz27 hc27; have KY27 := Aside0.mk hy27; have KA27 := Aside0.mk hA27; clear hy27 hA27; have KL27 := Aside0.mk (show (t457 : Int).toNat ≤ t453.length from by omega); have KM27 := Aside0.mk (show (t454 : Int).toNat ≤ (t457 : Int).toNat from by omega); replace q27 := eq_true q27) | (go_at_call 10; (with_reducible refine (impl_ExprValid.calls k _ _ y460 true _ ?side1 ?side2 (zz22_5_ HTAB.out HB.out) A20.out).mono ?_); (case side1 => repeat (first | exact (zz22_8_ HR463.out) | (with_reducible refine Kd.C_alloc ?_ _) | (with_reducible refine Kd.C_drewN ?_ _) | (with_reducible refine Kd.C_drew ?_))); (case side2 => exact HC463.out); rintro e w28 ⟨rfl, hb⟩; have n0_ := Aside0.mk (Kd.Q_below (zz22_7_ HO456.out) hb); have n1_ := Aside0.mk (Kd.C_below (zz22_8_ HR463.out) hb); have n2_ := Aside0.mk (below_step (zz22_2_ HB.out) hb); clear HO456; clear HR463; clear HB; have HO456 := n0_; have HR463 := n1_; have HB := n2_; clear n0_ n1_ n2_; (try clear hb); (try clear hb2); (try clear hk); (try clear hi)) | (go_at_call 7; (with_reducible refine (impl_ExprEnd.calls k _ _ t453 0 t465 _ ?side1 ?side2 (zz22_5_ HTAB.out HB.out) A22.out).mono ?_); (case side1 => exact zz22_6_ HO456.out); (case side2 => exact (Kd.Q_reads' HO456.out).2.1); rintro e w29 ⟨rfl, hb⟩; have n0_ := Aside0.mk (Kd.Q_below (zz22_7_ HO456.out) hb); have n1_ := Aside0.mk (Kd.C_below (zz22_8_ HR463.out) hb); have n2_ := Aside0.mk (below_step (zz22_2_ HB.out) hb); clear HO456; clear HR463; clear HB; have HO456 := n0_; have HR463 := n1_; have HB := n2_; clear n0_ n1_ n2_; (try clear hb); (try clear hb2); (try clear hk); (try clear hi)))
          go_ret
          exact ⟨by first | rfl | (simp [errW_none, errW_some] <;> rfl) | (simp [*, errW_none, errW_some] <;> rfl), zz22_2_ HB.out⟩
         ·replace c21 := Bool.eq_false_iff.mpr c21
          subst c21
          rw [if_neg (show ¬ (false = true) by decide)] at H
          exact absurd H (by simp)
        ·rw [if_neg c18] at H
         exact absurd H (by simp)
       ·rw [if_neg c17] at H
        exact absurd H (by simp)
      ·rw [if_neg c16] at H
       exact absurd H (by simp)
     ·rw [if_neg c15] at H
      exact absurd H (by simp)
    ·rw [if_neg c14] at H
     exact absurd H (by simp)
  ·rw [if_neg c6] at H
   exact absurd H (by simp)

/-- THE ONE PURE STATEMENT of laws_FnExprEnd: yours. -/
def laws_FnExprEnd.Pure : Prop := ∀ (l0 : List Int), l0.length ≤ maxLen → l0.length * 1 ≤ 140737488351232 → (∀ x ∈ l0, (Lit.int .u8 x).wf = true) → ∃ k, laws_FnExprEnd.f k l0 = some true
theorem laws_FnExprEnd.walk (P : laws_FnExprEnd.Pure) (a0 : Option Addr) (len0 cap0 : Nat) (z0 : List Int) (w : World) (w0 : (a0 = none ∧ len0 = 0 ∧ cap0 = 0 ∧ z0 = []) ∨ ∃ x, a0 = some x ∧ len0 ≤ cap0 ∧ cap0 ≤ maxLen ∧ z0.length = cap0 ∧ (∀ i, i < z0.length → w.cell? (x.add i) = some (.int .u8 (z0.getD i 0))) ∧ ∀ n ∈ z0, (Lit.int .u8 n).wf = true) (y0 : len0 * 1 ≤ 140737488351232) (htab : Tab10 w) :
  Calls Tryz.prog 3 #[.slice a0 len0 cap0] w fun e w' => e = .returned (.bool true) ∧ Below w.heap.size w w' := by
 obtain ⟨l0, rfl, hr0, hm0, hw0, hc0⟩ := ReadsInt.ofRowC w0
 obtain ⟨k, h⟩ := P l0 hm0 y0 hw0
 refine (laws_FnExprEnd.calls k _ _ l0 true w (Kd.C_of_reads (d := (0 : Int)) (h1 := fun _ => rfl) hr0) hc0 htab h).mono ?_
 rintro e w' ⟨rfl, hd⟩
 exact ⟨rfl, hd⟩

/-! ### spec_DrawExprDepth: function 11 -/
theorem zz22_9_ {P1 P2 Q : Prop} (h1 : P1) (h2 : P2) (f : P1 → P2 → Q := by intro zq1_ zq2_; repeat (first | (with_reducible first | exact zq1_ | apply below_alloc | apply pw_below_drewN | apply below_drew1 | refine below_set ?_ (IsS47.ge zq2_)) | exact zq1_)) : Q := f h1 h2
def spec_DrawExprDepth.f (k : Nat) (l0 : List Int) : Option ((List (S35))) := (spec_l20Open.f l0).bind fun bt466 => ((spec_l20Expr.f k bt466.1 bt466.2 6).bind fun bt469 => (some bt469.1))
theorem spec_DrawExprDepth.mono : ∀ a0 k, LeO (spec_DrawExprDepth.f k a0) (spec_DrawExprDepth.f (k + 1) a0) := by
 intro a0 k
 unfold spec_DrawExprDepth.f
 repeat' first
   | (with_reducible exact spec_l20Expr.mono _ _ _ _)
   | (with_reducible exact LeO.refl _)
   | (with_reducible exact LeO.none _)
   | (with_reducible refine LeO.ite ?_ ?_)
   | (with_reducible refine LeO.bind ?_ (fun _ => ?_))
   | exact spec_l20Expr.mono _ _ _ _
   | exact LeO.none _
   | refine LeO.ite ?_ ?_
   | refine LeO.bind ?_ (fun _ => ?_)
set_option maxHeartbeats 8000000 in
set_option maxRecDepth 100000 in
theorem spec_DrawExprDepth.calls (k : Nat) (A0 : Option Addr) (c0 : Nat) (l0 : List Int) (r : List (S35)) (w : World) (hr0 : Kd.C (Kd.int .u8) w A0 l0.length l0) (hc0 : l0.length ≤ c0) (h : spec_DrawExprDepth.f k l0 = some r) :
  Calls Tryz.prog 11 #[.slice A0 l0.length c0] w fun e w' => ∃ v0_ : Value, e = .returned (v0_) ∧ Kd.Q k35 35 w' w.heap.size (fun _ => True) v0_ r ∧ Below w.heap.size w w' := by
 have HR0 := Aside0.mk hr0
 have HC0 := Aside0.mk hc0
 clear hr0 hc0
 have HB := Aside0.mk (Below.refl w.heap.size w)
 have H : ((spec_l20Open.f l0).bind fun bt466 => ((spec_l20Expr.f k bt466.1 bt466.2 6).bind fun bt469 => (some bt469.1))) = some r := h
 clear h
 replace H := Option.bind_eq_some_iff.mp H
 obtain ⟨⟨t466, t467⟩, A20, H⟩ := H
 try dsimp only at H
 have A2 := Aside0.mk A20
 clear A20
 replace H := Option.bind_eq_some_iff.mp H
 obtain ⟨⟨t469, t472⟩, A30, H⟩ := H
 try dsimp only at H
 have A3 := Aside0.mk A30
 clear A30
 obtain rfl := Option.some.inj H
 go_enter Tryz.func11, Tryz.ntmps11
 go_wp2_with (first | ((with_reducible refine gate_callee (f := 18) rfl ?_); refine goesL_ (some 4) rfl rfl Tryz.func18 (by kernel_rfl) rfl #[.slice A0 l0.length c0] rfl (zz22_1_) ?_; (with_reducible refine (spec_l20Open.calls _ _ l0 t466 t467 w _ ?side1 ?side2 ?side3 A2.out).mono ?_); (case side1 => exact zz22_2_ HB.out); (case side2 => exact HR0.out); (case side3 => exact HC0.out); rintro e w4 ⟨g468, rfl, hi, hb, hb2⟩; refine ⟨_, rfl, ?_⟩; have n0_ := Aside0.mk (hb); have n1_ := Aside0.mk (hi); clear HB; have HB := n0_; have HI468 := n1_; clear n0_ n1_; (try clear hb); (try clear hb2); (try clear hk); (try clear hi)) | ((with_reducible refine gate_callee (f := 26) rfl ?_); refine goesL_ (some 5) rfl rfl Tryz.func26 (by kernel_rfl) rfl #[.pointer (some ⟨g468, 0, none⟩), .int .i64 6] rfl (zz22_1_) ?_; (with_reducible refine (spec_l20Expr.calls k g468 t466 t467 6 t469 t472 w _ ?side1 ?side2 A3.out).mono ?_); (case side1 => repeat (first | (with_reducible first | exact HI468.out | apply IsS47.alloc | apply IsS47.drewN | apply IsS47.drew | apply IsS47.set_1) | exact HI468.out)); (case side2 => exact zz22_9_ HB.out HI468.out); rintro e w5 ⟨v470, rfl, ho0, hi, hb, hk⟩; refine ⟨_, rfl, ?_⟩; have n0_ := Aside0.mk (Kd.Q_lower ho0 (below_size (zz22_9_ HB.out HI468.out))); have n1_ := Aside0.mk (hb); have n2_ := Aside0.mk (hi); clear HB; clear HI468; have HO471 := n0_; have HB := n1_; have HI468 := n2_; clear n0_ n1_ n2_; (try clear hb); (try clear hb2); (try clear hk); (try clear hi); (try clear ho0)))
 go_ret
 exact ⟨_, by first | rfl | (simp [errW_none, errW_some] <;> rfl) | (simp [*, errW_none, errW_some] <;> rfl), zz22_7_ HO471.out, zz22_9_ HB.out HI468.out⟩

end Go.Proofs.YtifeiepociopoaaGreatDoor.PEx
