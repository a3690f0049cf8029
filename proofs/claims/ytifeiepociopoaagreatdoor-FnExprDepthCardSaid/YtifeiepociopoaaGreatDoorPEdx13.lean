-- Written for this session by its program hprint.py over the kit's print: functions, and contracts that the walk of the Go code proves.
import Derived.Test.YtifeiepociopoaaGreatDoorPEdx0
import Derived.Test.YtifeiepociopoaaGreatDoorPEdx8
import Derived.Test.YtifeiepociopoaaGreatDoorPEdx9
import Derived.Test.YtifeiepociopoaaGreatDoorPEdx12
namespace Go.Proofs.YtifeiepociopoaaGreatDoor.PEd
open Go.RowKit Go.Proofs.YtifeiepociopoaaGreatDoor.Hand Go.Proofs.YtifeiepociopoaaGreatDoorW.PrintWords Go.Proofs.YtifeiepociopoaaGreatDoorW.PrintLast Go.Proofs.YtifeiepociopoaaGreatDoorW.PrintMore
attribute [local go_sem] max2_int min2_int max_two min_two max_three min_three max_four min_four   -- for this text's walks alone
set_option linter.unusedVariables false
set_option linter.unusedSimpArgs false

/-! ### spec_DrawExprDepth: function 11 -/
theorem zz13_0_ {Q : Prop} (f : Q := by (try simp only [List.map_toArray, List.map_cons, List.map_nil]); first | done | rfl | (simp only [List.length_drop, List.length_take]; rfl)) : Q := f
theorem zz13_2_ {P1 Q : Prop} (h1 : P1) (f : P1 → Q := by intro zq1_; repeat (first | (with_reducible first | exact zq1_ | apply below_alloc | apply pw_below_drewN | apply below_drew1) | exact zq1_)) : Q := f h1
theorem zz13_1_ {P1 P2 Q : Prop} (h1 : P1) (h2 : P2) (f : P1 → P2 → Q := by intro zq1_ zq2_; repeat (first | (with_reducible first | exact zq1_ | apply below_alloc | apply pw_below_drewN | apply below_drew1 | refine below_set ?_ (IsS47.ge zq2_)) | exact zq1_)) : Q := f h1 h2
def spec_DrawExprDepth.f (k : Nat) (l0 : List Int) : Option ((List (S35))) := (spec_l20Open.f l0).bind fun bt358 => ((spec_l20Expr.f k bt358.1 bt358.2 6).bind fun bt361 => (some bt361.1))
theorem spec_DrawExprDepth.mono : ∀ a0 k, LeO (spec_DrawExprDepth.f k a0) (spec_DrawExprDepth.f (k + 1) a0) := by
 intro a0 k
 unfold spec_DrawExprDepth.f
 repeat' first
   | (with_reducible exact spec_l20Expr.mono _ _ _ _)
   | (with_reducible exact LeO.refl _)
   | (with_reducible exact LeO.none _)
   | (with_reducible refine LeO.ite ?_ ?_)
   | (with_reducible refine LeO.bind ?_ (fun _ => ?_))
   | exact spec_l20Expr.mono _ _ _ _
   | exact LeO.none _
   | refine LeO.ite ?_ ?_
   | refine LeO.bind ?_ (fun _ => ?_)
set_option maxHeartbeats 8000000 in
set_option maxRecDepth 100000 in
theorem spec_DrawExprDepth.calls (k : Nat) (A0 : Option Addr) (c0 : Nat) (l0 : List Int) (r : List (S35)) (w : World) (hr0 : Kd.C (Kd.int .u8) w A0 l0.length l0) (hc0 : l0.length ≤ c0) (h : spec_DrawExprDepth.f k l0 = some r) :
  Calls Tryz.prog 11 #[.slice A0 l0.length c0] w fun e w' => ∃ v0_ : Value, e = .returned (v0_) ∧ Kd.Q k35 35 w' w.heap.size (fun _ => True) v0_ r ∧ Below w.heap.size w w' := by
 have HR0 := Aside0.mk hr0
 have HC0 := Aside0.mk hc0
 clear hr0 hc0
 have HB := Aside0.mk (Below.refl w.heap.size w)
 have H : ((spec_l20Open.f l0).bind fun bt358 => ((spec_l20Expr.f k bt358.1 bt358.2 6).bind fun bt361 => (some bt361.1))) = some r := h
 clear h
 replace H := Option.bind_eq_some_iff.mp H
 obtain ⟨⟨t358, t359⟩, A20, H⟩ := H
 try dsimp only at H
 have A2 := Aside0.mk A20
 clear A20
 replace H := Option.bind_eq_some_iff.mp H
 obtain ⟨⟨t361, t364⟩, A30, H⟩ := H
 try dsimp only at H
 have A3 := Aside0.mk A30
 clear A30
 obtain rfl := Option.some.inj H
 go_enter Tryz.func11, Tryz.ntmps11
 go_wp2_with (first | ((with_reducible refine gate_callee (f := 18) rfl ?_); refine goesL_ (some 4) rfl rfl Tryz.func18 (by kernel_rfl) rfl #[.slice A0 l0.length c0] rfl (zz13_0_) ?_; (with_reducible refine (spec_l20Open.calls _ _ l0 t358 t359 w _ ?side1 ?side2 ?side3 A2.out).mono ?_); (case side1 => exact zz13_2_ HB.out); (case side2 => exact HR0.out); (case side3 => exact HC0.out); rintro e w4 ⟨g360, rfl, hi, hb, hb2⟩; refine ⟨_, rfl, ?_⟩; have n0_ := Aside0.mk (hb); have n1_ := Aside0.mk (hi); clear HB; have HB := n0_; have HI360 := n1_; clear n0_ n1_; (try clear hb); (try clear hb2); (try clear hk); (try clear hi)) | ((with_reducible refine gate_callee (f := 26) rfl ?_); refine goesL_ (some 5) rfl rfl Tryz.func26 (by kernel_rfl) rfl #[.pointer (some ⟨g360, 0, none⟩), .int .i64 6] rfl (zz13_0_) ?_; (with_reducible refine (spec_l20Expr.calls k g360 t358 t359 6 t361 t364 w _ ?side1 ?side2 A3.out).mono ?_); (case side1 => repeat (first | (with_reducible first | exact HI360.out | apply IsS47.alloc | apply IsS47.drewN | apply IsS47.drew | apply IsS47.set_1) | exact HI360.out)); (case side2 => exact zz13_1_ HB.out HI360.out); rintro e w5 ⟨v362, rfl, ho0, hi, hb, hk⟩; refine ⟨_, rfl, ?_⟩; have n0_ := Aside0.mk (Kd.Q_lower ho0 (below_size (zz13_1_ HB.out HI360.out))); have n1_ := Aside0.mk (hb); have n2_ := Aside0.mk (hi); clear HB; clear HI360; have HO363 := n0_; have HB := n1_; have HI360 := n2_; clear n0_ n1_ n2_; (try clear hb); (try clear hb2); (try clear hk); (try clear hi); (try clear ho0)))
 go_ret
 exact ⟨_, by first | rfl | (simp [errW_none, errW_some] <;> rfl) | (simp [*, errW_none, errW_some] <;> rfl), by (with_reducible repeat (first | apply Kd.Q_alloc | apply Kd.Q_drewN | apply Kd.Q_drew)); exact HO363.out, zz13_1_ HB.out HI360.out⟩

/-! ### impl_ExprDepth: function 12 -/
theorem zz13_3_ {P1 Q : Prop} (h1 : P1) (f : P1 → Q := by intro zq1_; repeat (first | exact zq1_ | (with_reducible refine Kd.C_alloc ?_ _) | (with_reducible refine Kd.C_drewN ?_ _) | (with_reducible refine Kd.C_drew ?_))) : Q := f h1
theorem zz13_4_ {P1 P2 Q : Prop} (h1 : P1) (h2 : P2) (f : P1 → P2 → Q := by intro zq1_ zq2_; repeat (first | exact (Kd.C_below zq1_ zq2_) | (with_reducible refine Kd.C_alloc ?_ _) | (with_reducible refine Kd.C_drewN ?_ _) | (with_reducible refine Kd.C_drew ?_))) : Q := f h1 h2
def impl_ExprDepth.f (k : Nat) (l0 : List (S35)) : Option (Int) := (impl_ExprValid.f k l0).bind fun t365 => (if t365 = true then ((impl_measure.f k l0 0).bind fun bt366 => (some bt366.2)) else (some (-1)))
theorem impl_ExprDepth.mono : ∀ a0 k, LeO (impl_ExprDepth.f k a0) (impl_ExprDepth.f (k + 1) a0) := by
 intro a0 k
 unfold impl_ExprDepth.f
 repeat' first
   | (with_reducible exact impl_ExprValid.mono _ _)
   | (with_reducible exact impl_measure.mono _ _ _)
   | (with_reducible exact LeO.refl _)
   | (with_reducible exact LeO.none _)
   | (with_reducible refine LeO.ite ?_ ?_)
   | (with_reducible refine LeO.bind ?_ (fun _ => ?_))
   | exact impl_ExprValid.mono _ _
   | exact impl_measure.mono _ _ _
   | exact LeO.none _
   | refine LeO.ite ?_ ?_
   | refine LeO.bind ?_ (fun _ => ?_)
set_option maxHeartbeats 8000000 in
set_option maxRecDepth 100000 in
theorem impl_ExprDepth.calls (k : Nat) (A0 : Option Addr) (c0 : Nat) (l0 : List (S35)) (r : Int) (w : World) (hr0 : Kd.C k35 w A0 l0.length l0) (hc0 : l0.length ≤ c0) (htab : Tab10 w) (h : impl_ExprDepth.f k l0 = some r) :
  Calls Tryz.prog 12 #[.slice A0 l0.length c0] w fun e w' => e = .returned (.int .i64 r) ∧ Below w.heap.size w w' := by
 have HTAB := Aside0.mk htab
 clear htab
 have HR0 := Aside0.mk hr0
 have HC0 := Aside0.mk hc0
 clear hr0 hc0
 have HB := Aside0.mk (Below.refl w.heap.size w)
 have H : ((impl_ExprValid.f k l0).bind fun t365 => (if t365 = true then ((impl_measure.f k l0 0).bind fun bt366 => (some bt366.2)) else (some (-1)))) = some r := h
 clear h
 replace H := Option.bind_eq_some_iff.mp H
 obtain ⟨t365, A20, H⟩ := H
 try dsimp only at H
 have A2 := Aside0.mk A20
 clear A20
 by_cases c3 : t365 = true
 ·subst c3
  rw [if_pos rfl] at H
  replace H := Option.bind_eq_some_iff.mp H
  obtain ⟨⟨t366, t367⟩, A40, H⟩ := H
  try dsimp only at H
  have A4 := Aside0.mk A40
  clear A40
  obtain rfl := Option.some.inj H
  go_enter Tryz.func12, Tryz.ntmps12
  go_wp2_with (first | ((with_reducible refine gate_callee (f := 10) rfl ?_); refine goesL_ (some 6) rfl rfl Tryz.func10 (by kernel_rfl) rfl #[.slice A0 l0.length c0] rfl (zz13_0_) ?_; (with_reducible refine (impl_ExprValid.calls k _ _ l0 true _ ?side1 ?side2 (by first | exact HTAB.out | exact tab_at HTAB.out (zz13_2_ HB.out)) A2.out).mono ?_); (case side1 => exact zz13_3_ HR0.out); (case side2 => exact HC0.out); rintro e w5 ⟨rfl, hb⟩; refine ⟨_, rfl, ?_⟩; have n0_ := Aside0.mk (below_step (zz13_2_ HB.out) hb); clear HB; have HB := n0_; clear n0_; (try clear hb); (try clear hb2); (try clear hk); (try clear hi)) | ((with_reducible refine gate_callee (f := 20) rfl ?_); refine goesL_ (some 10) rfl rfl Tryz.func20 (by kernel_rfl) rfl #[.slice A0 l0.length c0, .int .i64 0] rfl (zz13_0_) ?_; (with_reducible refine (impl_measure.calls k _ _ l0 0 t366 t367 _ ?side1 ?side2 A4.out).mono ?_); (case side1 => exact zz13_4_ HR0.out HB.out); (case side2 => exact HC0.out); rintro e w6 ⟨rfl, hb⟩; refine ⟨_, rfl, ?_⟩; have n0_ := Aside0.mk (below_step (zz13_2_ HB.out) hb); clear HB; have HB := n0_; clear n0_; (try clear hb); (try clear hb2); (try clear hk); (try clear hi)))
  go_ret
  exact ⟨by first | rfl | (simp [errW_none, errW_some] <;> rfl) | (simp [*, errW_none, errW_some] <;> rfl), zz13_2_ HB.out⟩
 ·replace c3 := Bool.eq_false_iff.mpr c3
  subst c3
  rw [if_neg (show ¬ (false = true) by decide)] at H
  obtain rfl := Option.some.inj H
  go_enter Tryz.func12, Tryz.ntmps12
  go_wp2_with (first | ((with_reducible refine gate_callee (f := 10) rfl ?_); refine goesL_ (some 6) rfl rfl Tryz.func10 (by kernel_rfl) rfl #[.slice A0 l0.length c0] rfl (zz13_0_) ?_; (with_reducible refine (impl_ExprValid.calls k _ _ l0 false _ ?side1 ?side2 (by first | exact HTAB.out | exact tab_at HTAB.out (zz13_2_ HB.out)) A2.out).mono ?_); (case side1 => exact zz13_3_ HR0.out); (case side2 => exact HC0.out); rintro e w7 ⟨rfl, hb⟩; refine ⟨_, rfl, ?_⟩; have n0_ := Aside0.mk (below_step (zz13_2_ HB.out) hb); clear HB; have HB := n0_; clear n0_; (try clear hb); (try clear hb2); (try clear hk); (try clear hi)))
  go_ret
  exact ⟨by first | rfl | (simp [errW_none, errW_some] <;> rfl) | (simp [*, errW_none, errW_some] <;> rfl), zz13_2_ HB.out⟩

/-! ### spec_l1In: function 21 -/
theorem zz13_5_ {Q : Prop} (f : Q := by repeat (first | exact Drawn0.refl _ | apply Drawn0.step)) : Q := f
def spec_l1In.f (a0 : Int) (a1 : Int) (a2 : Int) : Option (Bool) := if a0 ≥ a1 then (some (decide (a0 ≤ a2))) else (some false)
set_option maxHeartbeats 8000000 in
set_option maxRecDepth 100000 in
theorem spec_l1In.calls (a0 : Int) (a1 : Int) (a2 : Int) (r : Bool) (w : World) (h : spec_l1In.f a0 a1 a2 = some r) :
  Calls Tryz.prog 21 #[.int .i64 a0, .int .i64 a1, .int .i64 a2] w fun e w' => e = .returned (.bool r) ∧ Drawn0 w w' := by
 have H : (if a0 ≥ a1 then (some (decide (a0 ≤ a2))) else (some false)) = some r := h
 clear h
 by_cases c4 : a0 ≥ a1
 ·rw [if_pos c4] at H
  have c4b0 : decide (a1 ≤ a0) = true := decide_eq_true c4
  clear c4
  obtain rfl := Option.some.inj H
  go_enter Tryz.func21, Tryz.ntmps21
  go_wp2
  go_ret
  exact ⟨by first | rfl | (simp; done) | (simp [*]; done), zz13_5_⟩
 ·rw [if_neg c4] at H
  have c4b0 : decide (a1 ≤ a0) = false := decide_eq_false c4
  clear c4
  obtain rfl := Option.some.inj H
  go_enter Tryz.func21, Tryz.ntmps21
  go_wp2
  go_ret
  exact ⟨by first | rfl | (simp; done) | (simp [*]; done), zz13_5_⟩

/-! ### spec_l5End: function 22 -/
theorem zz13_6_ {Q : Prop} (f : Q := by first | (with_reducible assumption) | assumption) : Q := f
def spec_l5End.l0 : Nat → List (S35) → Int → Int → Option (Int)
 | 0, _, _, _ => none
 | k + 1, x0, x1, x5 => if x1 < (x0.length : Int) then (if x5 > 0 then (if 0 ≤ x1 then (spec_l5End.l0 k x0 (wrap64 (x1 + 1)) (wrap64 ((wrap64 (x5 - 1)) + (mx 0 ((rd_T35 x0 x1).f2))))) else (none)) else (some x1)) else (if x5 > 0 then (some (-1)) else (some x1))
def spec_l5End.f (k : Nat) (l0 : List (S35)) (a1 : Int) : Option (Int) := spec_l5End.l0 k l0 a1 1
theorem spec_l5End.mono_l : ∀ k, (∀ y0 y1 y2, LeO (spec_l5End.l0 k y0 y1 y2) (spec_l5End.l0 (k + 1) y0 y1 y2))
 | 0 => fun _ _ _ r h => by simp [spec_l5End.l0] at h
 | k + 1 => by
  have ih0 := spec_l5End.mono_l k
  ·intro y0 y1 y2
   unfold spec_l5End.l0
   repeat' first
   | (with_reducible exact ih0 _ _ _)
   | (with_reducible exact LeO.refl _)
   | (with_reducible exact LeO.none _)
   | (with_reducible refine LeO.ite ?_ ?_)
   | (with_reducible refine LeO.bind ?_ (fun _ => ?_))
   | exact ih0 _ _ _
   | exact LeO.none _
   | refine LeO.ite ?_ ?_
   | refine LeO.bind ?_ (fun _ => ?_)
theorem spec_l5End.mono : ∀ a0 a1 k, LeO (spec_l5End.f k a0 a1) (spec_l5End.f (k + 1) a0 a1) := by
 intro a0 a1 k
 have ih0 := spec_l5End.mono_l k
 unfold spec_l5End.f
 repeat' first
   | (with_reducible exact ih0 _ _ _)
   | (with_reducible exact LeO.refl _)
   | (with_reducible exact LeO.none _)
   | (with_reducible refine LeO.ite ?_ ?_)
   | (with_reducible refine LeO.bind ?_ (fun _ => ?_))
   | exact ih0 _ _ _
   | exact LeO.none _
   | refine LeO.ite ?_ ?_
   | refine LeO.bind ?_ (fun _ => ?_)
set_option maxHeartbeats 8000000 in
set_option maxRecDepth 100000 in
theorem spec_l5End.calls (k : Nat) (A0 : Option Addr) (c0 : Nat) (l0 : List (S35)) (a1 : Int) (r : Int) (w : World) (hr0 : Kd.C k35 w A0 l0.length l0) (hc0 : l0.length ≤ c0) (h : spec_l5End.f k l0 a1 = some r) :
  Calls Tryz.prog 22 #[.slice A0 l0.length c0, .int .i64 a1] w fun e w' => e = .returned (.int .i64 r) ∧ Below w.heap.size w w' := by
 have HR0 := Aside0.mk hr0
 have HC0 := Aside0.mk hc0
 clear hr0 hc0
 have HB := Aside0.mk (Below.refl w.heap.size w)
 have H : (spec_l5End.l0 k l0 a1 1) = some r := h
 clear h
 have H' := Aside0.mk H
 clear H
 go_enter Tryz.func22, Tryz.ntmps22
 go_wp2
 go_loopg [1, 5] k (fun kq v1 v5 w' => ∃ (x1_1 : Int) (x5_1 : Int), v1 = .int .i64 x1_1 ∧ v5 = .int .i64 x5_1 ∧ Aside0 (spec_l5End.l0 kq l0 x1_1 x5_1 = some r) ∧ Aside0 (kq ≤ k) ∧ Aside0 (Below w.heap.size w w'))
 case atStart => exact ⟨(a1), (1), (by first | rfl | (simp; done) | (simp [*]; done)), (by first | rfl | (simp; done) | (simp [*]; done)), H', ⟨Nat.le_refl _⟩, ⟨zz13_2_ HB.out⟩⟩
 case round =>
  clear H'
  try clear c2
  try clear p2
  obtain ⟨x1_1, x5_1, rfl, rfl, HA, HK1, HB⟩ := hrel
  cases gk with
  | zero => exact absurd HA.out (by simp [spec_l5End.l0])
  | succ k1 =>
   have H := HA.out
   clear HA
   simp only [spec_l5End.l0] at H
   by_cases c3 : x1_1 < (l0.length : Int)
   ·rw [if_pos c3] at H
    have c3b0 : decide (x1_1 < (l0.length : Int)) = true := decide_eq_true c3
    clear c3
    by_cases c4 : x5_1 > 0
    ·rw [if_pos c4] at H
     have c4b0 : decide (0 < x5_1) = true := decide_eq_true c4
     clear c4
     by_cases c5 : 0 ≤ x1_1
     ·rw [if_pos c5] at H
      have c5b0 : decide (0 ≤ x1_1) = true := decide_eq_true c5
      clear c5
      obtain ⟨ji6, hji6⟩ : ∃ j_ : Int, (mx 0 ((rd_T35 l0 x1_1).f2)) = j_ := ⟨_, rfl⟩
      replace H : (spec_l5End.l0 k1 l0 (wrap64 (x1_1 + 1)) (wrap64 ((wrap64 (x5_1 - 1)) + (ji6)))) = some r := by first | (rw [hji6] at H; exact H) | (simp only [hji6] at H ⊢; exact H)
      have hji6_ : (if 0 < ((rd_T35 l0 x1_1).f2) then ((rd_T35 l0 x1_1).f2) else 0) = ji6 := hji6
      have H' := Aside0.mk H
      clear H
      have p368 : 0 ≤ (x1_1 : Int) := of_decide_eq_true (zz13_6_)
      have q368 : x1_1 < (l0.length : Int) := of_decide_eq_true (zz13_6_)
      obtain ⟨ad368, e368, hx368_0, hx368_1, hx368_2⟩ := at_T35 HR0.out x1_1 p368 q368
      cases e368
      replace hx368_0 := (HB.out.cell (World.block_lt_of_cell? w _ hx368_0)).trans hx368_0
      replace hx368_1 := (HB.out.cell (World.block_lt_of_cell? w _ hx368_1)).trans hx368_1
      replace hx368_2 := (HB.out.cell (World.block_lt_of_cell? w _ hx368_2)).trans hx368_2
      replace p368 := eq_true p368
      replace q368 := eq_true q368
      go_wp2
      go_roundg k1
      case measure => have := HK1.out; omega
      case rel => exact ⟨(wrap64 (x1_1 + 1)), (wrap64 ((wrap64 (x5_1 - 1)) + (ji6))), (by first | rfl | (simp; done) | (simp [*]; done)), (by first | rfl | (simp; done) | (simp only [← hji6] <;> (first | rfl | simp)) | (simp [*]; done)), H', ⟨by have := HK1.out; omega⟩, ⟨zz13_2_ HB.out⟩⟩
     ·rw [if_neg c5] at H
      exact absurd H (by simp)
    ·rw [if_neg c4] at H
     have c4b0 : decide (0 < x5_1) = false := decide_eq_false c4
     clear c4
     obtain rfl := Option.some.inj H
     go_wp2
     go_ret
     exact ⟨by first | rfl | (simp [errW_none, errW_some] <;> rfl) | (simp [*, errW_none, errW_some] <;> rfl), zz13_2_ HB.out⟩
   ·rw [if_neg c3] at H
    have c3b0 : decide (x1_1 < (l0.length : Int)) = false := decide_eq_false c3
    clear c3
    by_cases c7 : x5_1 > 0
    ·rw [if_pos c7] at H
     have c7b0 : decide (0 < x5_1) = true := decide_eq_true c7
     clear c7
     obtain rfl := Option.some.inj H
     go_wp2
     go_ret
     exact ⟨by first | rfl | (simp [errW_none, errW_some] <;> rfl) | (simp [*, errW_none, errW_some] <;> rfl), zz13_2_ HB.out⟩
    ·rw [if_neg c7] at H
     have c7b0 : decide (0 < x5_1) = false := decide_eq_false c7
     clear c7
     obtain rfl := Option.some.inj H
     go_wp2
     go_ret
     exact ⟨by first | rfl | (simp [errW_none, errW_some] <;> rfl) | (simp [*, errW_none, errW_some] <;> rfl), zz13_2_ HB.out⟩

/-! ### spec_l5Kids: function 37 -/
theorem zz13_7_ {P1 Q : Prop} (h1 : P1) (f : P1 → Q := by intro zq1_; (with_reducible repeat (first | apply Kd.R_alloc | apply Kd.R_drewN | apply Kd.R_drew)); exact zq1_) : Q := f h1
def spec_l5Kids.l0 : Nat → List (S35) → Int → List Int → Int → Int → Option (List Int)
 | 0, _, _, _, _, _ => none
 | k + 1, x0, x1, x5, x6, x7 => if 0 ≤ x1 then (if x1 < (x0.length : Int) then (if x7 < ((rd_T35 x0 x1).f2) then (if x5.length < 17592186044416 then ((spec_l5End.f k x0 x6).bind fun t376 => (spec_l5Kids.l0 k x0 x1 (x5 ++ [x6]) t376 (wrap64 (x7 + 1)))) else (none)) else (some x5)) else (none)) else (none)
def spec_l5Kids.f (k : Nat) (l0 : List (S35)) (a1 : Int) : Option (List Int) := spec_l5Kids.l0 k l0 a1 (([] : List Int)) (wrap64 (a1 + 1)) 0
theorem spec_l5Kids.mono_l : ∀ k, (∀ y0 y1 y2 y3 y4, LeO (spec_l5Kids.l0 k y0 y1 y2 y3 y4) (spec_l5Kids.l0 (k + 1) y0 y1 y2 y3 y4))
 | 0 => fun _ _ _ _ _ r h => by simp [spec_l5Kids.l0] at h
 | k + 1 => by
  have ih0 := spec_l5Kids.mono_l k
  ·intro y0 y1 y2 y3 y4
   unfold spec_l5Kids.l0
   repeat' first
   | (with_reducible exact ih0 _ _ _ _ _)
   | (with_reducible exact spec_l5End.mono _ _ _)
   | (with_reducible exact LeO.refl _)
   | (with_reducible exact LeO.none _)
   | (with_reducible refine LeO.ite ?_ ?_)
   | (with_reducible refine LeO.bind ?_ (fun _ => ?_))
   | exact ih0 _ _ _ _ _
   | exact spec_l5End.mono _ _ _
   | exact LeO.none _
   | refine LeO.ite ?_ ?_
   | refine LeO.bind ?_ (fun _ => ?_)
theorem spec_l5Kids.mono : ∀ a0 a1 k, LeO (spec_l5Kids.f k a0 a1) (spec_l5Kids.f (k + 1) a0 a1) := by
 intro a0 a1 k
 have ih0 := spec_l5Kids.mono_l k
 unfold spec_l5Kids.f
 repeat' first
   | (with_reducible exact ih0 _ _ _ _ _)
   | (with_reducible exact spec_l5End.mono _ _ _)
   | (with_reducible exact LeO.refl _)
   | (with_reducible exact LeO.none _)
   | (with_reducible refine LeO.ite ?_ ?_)
   | (with_reducible refine LeO.bind ?_ (fun _ => ?_))
   | exact ih0 _ _ _ _ _
   | exact spec_l5End.mono _ _ _
   | exact LeO.none _
   | refine LeO.ite ?_ ?_
   | refine LeO.bind ?_ (fun _ => ?_)
set_option maxHeartbeats 8000000 in
set_option maxRecDepth 100000 in
theorem spec_l5Kids.calls (k : Nat) (A0 : Option Addr) (c0 : Nat) (l0 : List (S35)) (a1 : Int) (r : List Int) (w : World) (hr0 : Kd.C k35 w A0 l0.length l0) (hc0 : l0.length ≤ c0) (h : spec_l5Kids.f k l0 a1 = some r) :
  Calls Tryz.prog 37 #[.slice A0 l0.length c0, .int .i64 a1] w fun e w' => ∃ v0_ : Value, e = .returned (v0_) ∧ Kd.R (Kd.int .i64) 3 w' w.heap.size (fun _ => True) v0_ r ∧ Below w.heap.size w w' := by
 have HR0 := Aside0.mk hr0
 have HC0 := Aside0.mk hc0
 clear hr0 hc0
 have HB := Aside0.mk (Below.refl w.heap.size w)
 have H : (spec_l5Kids.l0 k l0 a1 (([] : List Int)) (wrap64 (a1 + 1)) 0) = some r := h
 clear h
 obtain ⟨y369, hy369⟩ : ∃ y_ : List Int, y_ = (([] : List Int)) := ⟨_, rfl⟩
 replace H : (spec_l5Kids.l0 k l0 a1 y369 (wrap64 (a1 + 1)) 0) = some r := by first | (rw [hy369]; with_reducible exact H) | (have H2_ := (Option.bind_some _ _).symm.trans H; rw [hy369]; with_reducible exact H2_) | (have H2_ := (Option.bind_some _ _).symm.trans H; with_reducible exact H2_) | with_reducible exact H | (rw [hy369]; exact H) | exact H
 have Ny369 := Aside0.mk hy369
 clear hy369
 have H' := Aside0.mk H
 clear H
 go_enter Tryz.func37, Tryz.ntmps37
 go_wp2_with (first | ((with_reducible refine gate_dst (N := 8) rfl ?_); refine Kd.R_lit (Kd.int .i64) _ 3 ?hg (N := 8) ?hd (xs := ([] : List Int)) (inner := []) (ok := fun _ => True) (okp := fun _ => True) ?hr ?hp (fun _ hk => hk) trivial (Below.refl _ _) (Nat.le_refl _) (by simp) ?_; (case hd => rfl); (case hg => rfl); (case hr => first | (go_simp; done) | (go_simp; rfl)); (case hp => exact (Reps.none _ _)); intro v370 w3 ho4 hb hg_ hnew_; clear hg_ hnew_; (first | rw [← Ny369.out] at ho4 | (simp only [Int.reduceToNat] at ho4; rw [← Ny369.out] at ho4)); have n0_ := Aside0.mk (Kd.R_lower ho4 (below_size (zz13_2_ HB.out))); have n1_ := Aside0.mk (below_step (zz13_2_ HB.out) hb); clear HB; have HO371 := n0_; have HB := n1_; clear n0_ n1_; clear hb ho4))
 go_loopg [5, 6, 7] k (fun kq v5 v6 v7 w' => ∃ (x5_1 : List Int) (x6_1 : Int) (x7_1 : Int), v6 = .int .i64 x6_1 ∧ v7 = .int .i64 x7_1 ∧ Aside0 (spec_l5Kids.l0 kq l0 a1 x5_1 x6_1 x7_1 = some r) ∧ Aside0 (kq ≤ k) ∧ Aside0 (Kd.R (Kd.int .i64) 3 w' w.heap.size (fun _ => True) v5 x5_1) ∧ Aside0 (Below w.heap.size w w'))
 case atStart => exact ⟨(y369), (wrap64 (a1 + 1)), (0), (by first | rfl | (simp; done) | (simp [*]; done)), (by first | rfl | (simp; done) | (simp [*]; done)), H', ⟨Nat.le_refl _⟩, ⟨zz13_7_ HO371.out⟩, ⟨zz13_2_ HB.out⟩⟩
 case round =>
  clear H'
  try clear p2
  try clear c3
  obtain ⟨x5_1, x6_1, x7_1, rfl, rfl, HA, HK1, HO_5, HB⟩ := hrel
  cases gk with
  | zero => exact absurd HA.out (by simp [spec_l5Kids.l0])
  | succ k1 =>
   have H := HA.out
   clear HA
   simp only [spec_l5Kids.l0] at H
   by_cases c5 : 0 ≤ a1
   ·rw [if_pos c5] at H
    have c5b0 : decide (0 ≤ a1) = true := decide_eq_true c5
    clear c5
    by_cases c6 : a1 < (l0.length : Int)
    ·rw [if_pos c6] at H
     have c6b0 : decide (a1 < (l0.length : Int)) = true := decide_eq_true c6
     clear c6
     by_cases c7 : x7_1 < ((rd_T35 l0 a1).f2)
     ·rw [if_pos c7] at H
      have c7b0 : decide (x7_1 < ((rd_T35 l0 a1).f2)) = true := decide_eq_true c7
      clear c7
      by_cases c8 : x5_1.length < 17592186044416
      ·rw [if_pos c8] at H
       have LMc8 := Aside0.mk c8
       clear c8
       obtain ⟨y373, hy373⟩ : ∃ y_ : List Int, y_ = (x5_1 ++ [x6_1]) := ⟨_, rfl⟩
       replace H : ((spec_l5End.f k1 l0 x6_1).bind fun t376 => (spec_l5Kids.l0 k1 l0 a1 y373 t376 (wrap64 (x7_1 + 1)))) = some r := by first | (rw [hy373]; with_reducible exact H) | (have H2_ := (Option.bind_some _ _).symm.trans H; rw [hy373]; with_reducible exact H2_) | (have H2_ := (Option.bind_some _ _).symm.trans H; with_reducible exact H2_) | with_reducible exact H | (rw [hy373]; exact H) | exact H
       have Ny373 := Aside0.mk hy373
       clear hy373
       replace H := Option.bind_eq_some_iff.mp H
       obtain ⟨t376, A90, H⟩ := H
       try dsimp only at H
       have A9 := Aside0.mk A90
       clear A90
       have H' := Aside0.mk H
       clear H
       have p372 : 0 ≤ (a1 : Int) := of_decide_eq_true (zz13_6_)
       have q372 : a1 < (l0.length : Int) := of_decide_eq_true (zz13_6_)
       obtain ⟨ad372, e372, hx372_0, hx372_1, hx372_2⟩ := at_T35 HR0.out a1 p372 q372
       cases e372
       replace hx372_0 := (HB.out.cell (World.block_lt_of_cell? w _ hx372_0)).trans hx372_0
       replace hx372_1 := (HB.out.cell (World.block_lt_of_cell? w _ hx372_1)).trans hx372_1
       replace hx372_2 := (HB.out.cell (World.block_lt_of_cell? w _ hx372_2)).trans hx372_2
       replace p372 := eq_true p372
       replace q372 := eq_true q372
       go_wp2_with (first | ((with_reducible refine gate_builtin (b := .append) (xs := #[.tmp 20, .tmp 22]) rfl ?_); at_builtin; refine Kd.R_append (Kd.int .i64) (w0 := w) w.heap.size rfl (.tmp 20) (.tmp 22) 32 3 (.int .i64 0) 8 rfl Tryz.underlying32 info3 rfl (by decide) (by omega) u5 x5_1 x6_1 [.int .i64 x6_1] (fun _ => True) (fun _ => False) rfl rfl ?aP (fun _ hk => hk.elim) ?aF ?aO ?aB ?aS ?aL ?_; (case aP => exact rfl); (case aB => exact (zz13_2_ HB.out)); (case aF => exact (fun _ _ => trivial)); (case aO => exact (zz13_7_ HO_5.out)); (case aS => exact (below_size (zz13_2_ HB.out))); (case aL => have := LMc8.out; omega); intro v374 w10 ho hb hg hat; rw [← Ny373.out] at ho; have n0_ := Aside0.mk (hb); have n1_ := Aside0.mk (ho); clear HB; clear HO_5; have HB := n0_; have HO375 := n1_; clear n0_ n1_; clear ho hb hg hat) | ((with_reducible refine gate_callee (f := 22) rfl ?_); refine goesL_ (some 26) rfl rfl Tryz.func22 (by kernel_rfl) rfl #[.slice (some ad372) l0.length c0, .int .i64 x6_1] rfl (zz13_0_) ?_; (with_reducible refine (spec_l5End.calls k1 _ _ l0 x6_1 t376 _ ?side1 ?side2 A9.out).mono ?_); (case side1 => exact zz13_4_ HR0.out HB.out); (case side2 => exact HC0.out); rintro e w11 ⟨rfl, hb⟩; refine ⟨_, rfl, ?_⟩; have n0_ := Aside0.mk (Kd.R_below (zz13_7_ HO375.out) hb); have n1_ := Aside0.mk (below_step (zz13_2_ HB.out) hb); clear HO375; clear HB; have HO375 := n0_; have HB := n1_; clear n0_ n1_; (try clear hb); (try clear hb2); (try clear hk); (try clear hi)))
       go_roundg k1
       case measure => have := HK1.out; omega
       case rel => exact ⟨(y373), (t376), (wrap64 (x7_1 + 1)), (by first | rfl | (simp; done) | (simp [*]; done)), (by first | rfl | (simp; done) | (simp [*]; done)), H', ⟨by have := HK1.out; omega⟩, ⟨zz13_7_ HO375.out⟩, ⟨zz13_2_ HB.out⟩⟩
      ·rw [if_neg c8] at H
       exact absurd H (by simp)
     ·rw [if_neg c7] at H
      have c7b0 : decide (x7_1 < ((rd_T35 l0 a1).f2)) = false := decide_eq_false c7
      clear c7
      obtain rfl := Option.some.inj H
      have p372 : 0 ≤ (a1 : Int) := of_decide_eq_true (zz13_6_)
      have q372 : a1 < (l0.length : Int) := of_decide_eq_true (zz13_6_)
      obtain ⟨ad372, e372, hx372_0, hx372_1, hx372_2⟩ := at_T35 HR0.out a1 p372 q372
      cases e372
      replace hx372_0 := (HB.out.cell (World.block_lt_of_cell? w _ hx372_0)).trans hx372_0
      replace hx372_1 := (HB.out.cell (World.block_lt_of_cell? w _ hx372_1)).trans hx372_1
      replace hx372_2 := (HB.out.cell (World.block_lt_of_cell? w _ hx372_2)).trans hx372_2
      replace p372 := eq_true p372
      replace q372 := eq_true q372
      go_wp2
      go_ret
      exact ⟨_, by first | rfl | (simp [errW_none, errW_some] <;> rfl) | (simp [*, errW_none, errW_some] <;> rfl), zz13_7_ HO_5.out, zz13_2_ HB.out⟩
    ·rw [if_neg c6] at H
     exact absurd H (by simp)
   ·rw [if_neg c5] at H
    exact absurd H (by simp)

/-! ### spec_l5Depth: function 27 -/
mutual
def spec_l5Depth.l0 : Nat → List (S35) → Int → List Int → Int → Option (Int)
 | 0, _, _, _, _ => none
 | k + 1, x0, x5, x6, x7 => if x7 < (x6.length : Int) then (if 0 ≤ x7 then ((spec_l5Depth.f k x0 (rd x6 x7)).bind fun t381 => (spec_l5Depth.l0 k x0 (mx x5 t381) x6 (wrap64 (x7 + 1)))) else (none)) else (some (wrap64 (x5 + 1)))
def spec_l5Depth.f : Nat → List (S35) → Int → Option (Int)
 | 0, _, _ => none
 | k + 1, l0, a1 => (spec_l5Kids.f k l0 a1).bind fun t377 => (spec_l5Depth.l0 k l0 0 t377 0)
end
theorem spec_l5Depth.mono_l : ∀ k, (∀ y0 y1, LeO (spec_l5Depth.f k y0 y1) (spec_l5Depth.f (k + 1) y0 y1)) ∧ (∀ y0 y1 y2 y3, LeO (spec_l5Depth.l0 k y0 y1 y2 y3) (spec_l5Depth.l0 (k + 1) y0 y1 y2 y3))
 | 0 => ⟨fun _ _ r h => by simp [spec_l5Depth.f] at h, fun _ _ _ _ r h => by simp [spec_l5Depth.l0] at h⟩
 | k + 1 => by
  obtain ⟨ih0, ih1⟩ := spec_l5Depth.mono_l k
  refine ⟨?_, ?_⟩
  ·intro y0 y1
   unfold spec_l5Depth.f
   repeat' first
   | (with_reducible exact ih0 _ _)
   | (with_reducible exact ih1 _ _ _ _)
   | (with_reducible exact spec_l5Kids.mono _ _ _)
   | (with_reducible exact LeO.refl _)
   | (with_reducible exact LeO.none _)
   | (with_reducible refine LeO.ite ?_ ?_)
   | (with_reducible refine LeO.bind ?_ (fun _ => ?_))
   | exact ih0 _ _
   | exact ih1 _ _ _ _
   | exact spec_l5Kids.mono _ _ _
   | exact LeO.none _
   | refine LeO.ite ?_ ?_
   | refine LeO.bind ?_ (fun _ => ?_)
  ·intro y0 y1 y2 y3
   unfold spec_l5Depth.l0
   repeat' first
   | (with_reducible exact ih0 _ _)
   | (with_reducible exact ih1 _ _ _ _)
   | (with_reducible exact spec_l5Kids.mono _ _ _)
   | (with_reducible exact LeO.refl _)
   | (with_reducible exact LeO.none _)
   | (with_reducible refine LeO.ite ?_ ?_)
   | (with_reducible refine LeO.bind ?_ (fun _ => ?_))
   | exact ih0 _ _
   | exact ih1 _ _ _ _
   | exact spec_l5Kids.mono _ _ _
   | exact LeO.none _
   | refine LeO.ite ?_ ?_
   | refine LeO.bind ?_ (fun _ => ?_)
theorem spec_l5Depth.mono : ∀ a0 a1 k, LeO (spec_l5Depth.f k a0 a1) (spec_l5Depth.f (k + 1) a0 a1) := by
 intro a0 a1 k
 obtain ⟨ih0, ih1⟩ := spec_l5Depth.mono_l k
 exact ih0 a0 a1
set_option maxHeartbeats 8000000 in
set_option maxRecDepth 100000 in
theorem spec_l5Depth.calls (k : Nat) : ∀ (A0 : Option Addr) (c0 : Nat) (l0 : List (S35)) (a1 : Int) (r : Int) (w : World) (hr0 : Kd.C k35 w A0 l0.length l0) (hc0 : l0.length ≤ c0) (h : spec_l5Depth.f k l0 a1 = some r),
  Calls Tryz.prog 27 #[.slice A0 l0.length c0, .int .i64 a1] w fun e w' => e = .returned (.int .i64 r) ∧ Below w.heap.size w w' := by
 induction k using Nat.strongRecOn with
 | _ k ih =>
 intro A0 c0 l0 a1 r w hr0 hc0 h
 cases k with
 | zero => exact absurd h (by simp [spec_l5Depth.f])
 | succ k =>
 simp only [spec_l5Depth.f] at h
 have HR0 := Aside0.mk hr0
 have HC0 := Aside0.mk hc0
 clear hr0 hc0
 have HB := Aside0.mk (Below.refl w.heap.size w)
 have H : ((spec_l5Kids.f k l0 a1).bind fun t377 => (spec_l5Depth.l0 k l0 0 t377 0)) = some r := h
 clear h
 replace H := Option.bind_eq_some_iff.mp H
 obtain ⟨t377, A30, H⟩ := H
 try dsimp only at H
 have A3 := Aside0.mk A30
 clear A30
 have H' := Aside0.mk H
 clear H
 go_enter Tryz.func27, Tryz.ntmps27
 go_wp2_with (first | ((with_reducible refine gate_callee (f := 37) rfl ?_); refine goesL_ (some 10) rfl rfl Tryz.func37 (by kernel_rfl) rfl #[.slice A0 l0.length c0, .int .i64 a1] rfl (zz13_0_) ?_; (with_reducible refine (spec_l5Kids.calls k _ _ l0 a1 t377 _ ?side1 ?side2 A3.out).mono ?_); (case side1 => exact zz13_3_ HR0.out); (case side2 => exact HC0.out); rintro e w4 ⟨v378, rfl, ho0, hb⟩; refine ⟨_, rfl, ?_⟩; have n0_ := Aside0.mk (Kd.R_lower ho0 (below_size (zz13_2_ HB.out))); have n1_ := Aside0.mk (below_step (zz13_2_ HB.out) hb); clear HB; have HO379 := n0_; have HB := n1_; clear n0_ n1_; (try clear hb); (try clear hb2); (try clear hk); (try clear hi); (try clear ho0)))
 go_loopg [5, 7] k (fun kq v5 v7 w' => ∃ (x5_1 : Int) (x7_1 : Int), v5 = .int .i64 x5_1 ∧ v7 = .int .i64 x7_1 ∧ Aside0 (spec_l5Depth.l0 kq l0 x5_1 t377 x7_1 = some r) ∧ Aside0 (kq ≤ k) ∧ Aside0 (Kd.R (Kd.int .i64) 3 w' w.heap.size (fun _ => True) v378 t377) ∧ Aside0 (Below w.heap.size w w'))
 case atStart => exact ⟨(0), (0), (by first | rfl | (simp; done) | (simp [*]; done)), (by first | rfl | (simp; done) | (simp [*]; done)), H', ⟨Nat.le_refl _⟩, ⟨zz13_7_ HO379.out⟩, ⟨zz13_2_ HB.out⟩⟩
 case round =>
  clear H'
  try clear c2
  try clear p2
  try clear c3
  obtain ⟨x5_1, x7_1, rfl, rfl, HA, HK1, HO_6, HB⟩ := hrel
  cases gk with
  | zero => exact absurd HA.out (by simp [spec_l5Depth.l0])
  | succ k1 =>
   have H := HA.out
   clear HA
   simp only [spec_l5Depth.l0] at H
   by_cases c5 : x7_1 < (t377.length : Int)
   ·rw [if_pos c5] at H
    have c5b0 : decide (x7_1 < (t377.length : Int)) = true := decide_eq_true c5
    clear c5
    by_cases c6 : 0 ≤ x7_1
    ·rw [if_pos c6] at H
     have c6b0 : decide (0 ≤ x7_1) = true := decide_eq_true c6
     clear c6
     replace H := Option.bind_eq_some_iff.mp H
     obtain ⟨t381, A70, H⟩ := H
     try dsimp only at H
     have A7 := Aside0.mk A70
     clear A70
     obtain ⟨ji8, hji8⟩ : ∃ j_ : Int, (mx x5_1 t381) = j_ := ⟨_, rfl⟩
     replace H : (spec_l5Depth.l0 k1 l0 ji8 t377 (wrap64 (x7_1 + 1))) = some r := by first | (rw [hji8] at H; exact H) | (simp only [hji8] at H ⊢; exact H)
     (try rw [hji8] at A7)
     have hji8_ : (if x5_1 < t381 then t381 else x5_1) = ji8 := hji8
     have H' := Aside0.mk H
     clear H
     obtain ⟨Ao9, co9, eo9⟩ := Kd.R_slice HO_6.out
     subst eo9
     have p380 : 0 ≤ (x7_1 : Int) := of_decide_eq_true (zz13_6_)
     have q380 : x7_1 < (t377.length : Int) := of_decide_eq_true (zz13_6_)
     obtain ⟨ad380, e380, hx380_0⟩ := Kd.at_int (Kd.R_reads' HO_6.out).2.2 x7_1 p380 q380
     cases e380
     replace p380 := eq_true p380
     replace q380 := eq_true q380
     go_wp2_with (first | ((with_reducible refine gate_callee (f := 27) rfl ?_); refine goesL_ (some 23) rfl rfl Tryz.func27 (by kernel_rfl) rfl #[.slice A0 l0.length c0, .int .i64 (rd t377 x7_1)] rfl (zz13_0_) ?_; (with_reducible refine (ih k1 (by have := HK1.out; omega) _ _ l0 (rd t377 x7_1) t381 _ ?side1 ?side2 A7.out).mono ?_); (case side1 => exact zz13_4_ HR0.out HB.out); (case side2 => exact HC0.out); rintro e w10 ⟨rfl, hb⟩; refine ⟨_, rfl, ?_⟩; have n0_ := Aside0.mk (Kd.R_below (zz13_7_ HO_6.out) hb); have n1_ := Aside0.mk (below_step (zz13_2_ HB.out) hb); clear HO_6; clear HB; have HO_6 := n0_; have HB := n1_; clear n0_ n1_; (try clear hb); (try clear hb2); (try clear hk); (try clear hi)))
     go_roundg k1
     case measure => have := HK1.out; omega
     case rel => exact ⟨(ji8), (wrap64 (x7_1 + 1)), (by first | rfl | (simp; done) | (simp only [← hji8] <;> (first | rfl | simp)) | (simp [*]; done)), (by first | rfl | (simp; done) | (simp [*]; done)), H', ⟨by have := HK1.out; omega⟩, ⟨zz13_7_ HO_6.out⟩, ⟨zz13_2_ HB.out⟩⟩
    ·rw [if_neg c6] at H
     exact absurd H (by simp)
   ·rw [if_neg c5] at H
    have c5b0 : decide (x7_1 < (t377.length : Int)) = false := decide_eq_false c5
    clear c5
    obtain rfl := Option.some.inj H
    obtain ⟨Ao11, co11, eo11⟩ := Kd.R_slice HO_6.out
    subst eo11
    go_wp2
    go_ret
    exact ⟨by first | rfl | (simp [errW_none, errW_some] <;> rfl) | (simp [*, errW_none, errW_some] <;> rfl), zz13_2_ HB.out⟩

/-! ### spec_l2Digits: function 55 -/
def spec_l2Digits.l0 : Nat → ByteArray → Int → Int → Int → Int → Option (Int × Int)
 | 0, _, _, _, _, _ => none
 | k + 1, x0, x1, x2, x8, x9 => if x1 < (x0.size : Int) then (if 0 ≤ x1 then (if (bt x0 x1) ≥ 48 then (if (bt x0 x1) ≤ 57 then (if x1 < (wrap64 (x9 + x2)) then (spec_l2Digits.l0 k x0 (wrap64 (x1 + 1)) x2 (wrap64 ((wrap64 (10 * x8)) + (((bt x0 x1) - 48) % 256))) x9) else (some (x8, x1))) else (some (x8, x1))) else (some (x8, x1))) else (none)) else (some (x8, x1))
def spec_l2Digits.f (k : Nat) (a0 : ByteArray) (a1 : Int) (a2 : Int) : Option (Int × Int) := spec_l2Digits.l0 k a0 a1 a2 0 a1
theorem spec_l2Digits.mono_l : ∀ k, (∀ y0 y1 y2 y3 y4, LeO (spec_l2Digits.l0 k y0 y1 y2 y3 y4) (spec_l2Digits.l0 (k + 1) y0 y1 y2 y3 y4))
 | 0 => fun _ _ _ _ _ r h => by simp [spec_l2Digits.l0] at h
 | k + 1 => by
  have ih0 := spec_l2Digits.mono_l k
  ·intro y0 y1 y2 y3 y4
   unfold spec_l2Digits.l0
   repeat' first
   | (with_reducible exact ih0 _ _ _ _ _)
   | (with_reducible exact LeO.refl _)
   | (with_reducible exact LeO.none _)
   | (with_reducible refine LeO.ite ?_ ?_)
   | (with_reducible refine LeO.bind ?_ (fun _ => ?_))
   | exact ih0 _ _ _ _ _
   | exact LeO.none _
   | refine LeO.ite ?_ ?_
   | refine LeO.bind ?_ (fun _ => ?_)
theorem spec_l2Digits.mono : ∀ a0 a1 a2 k, LeO (spec_l2Digits.f k a0 a1 a2) (spec_l2Digits.f (k + 1) a0 a1 a2) := by
 intro a0 a1 a2 k
 have ih0 := spec_l2Digits.mono_l k
 unfold spec_l2Digits.f
 repeat' first
   | (with_reducible exact ih0 _ _ _ _ _)
   | (with_reducible exact LeO.refl _)
   | (with_reducible exact LeO.none _)
   | (with_reducible refine LeO.ite ?_ ?_)
   | (with_reducible refine LeO.bind ?_ (fun _ => ?_))
   | exact ih0 _ _ _ _ _
   | exact LeO.none _
   | refine LeO.ite ?_ ?_
   | refine LeO.bind ?_ (fun _ => ?_)
set_option maxHeartbeats 8000000 in
set_option maxRecDepth 100000 in
theorem spec_l2Digits.calls (k : Nat) (a0 : ByteArray) (a1 : Int) (a2 : Int) (r1 : Int) (r2 : Int) (w : World) (h : spec_l2Digits.f k a0 a1 a2 = some (r1, r2)) :
  Calls Tryz.prog 55 #[.string a0, .int .i64 a1, .int .i64 a2] w fun e w' => e = .returned (.tuple #[.int .i64 r1, .int .i64 r2]) ∧ Drawn0 w w' := by
 have H : (spec_l2Digits.l0 k a0 a1 a2 0 a1) = some (r1, r2) := h
 clear h
 have H' := Aside0.mk H
 clear H
 go_enter Tryz.func55, Tryz.ntmps55
 go_wp2
 go_loopg [1, 8] k (fun kq v1 v8 w' => ∃ (x1_1 : Int) (x8_1 : Int), v1 = .int .i64 x1_1 ∧ v8 = .int .i64 x8_1 ∧ Aside0 (spec_l2Digits.l0 kq a0 x1_1 a2 x8_1 a1 = some (r1, r2)) ∧ Aside0 (kq ≤ k) ∧ Drawn0 w w')
 case atStart => exact ⟨(a1), (0), (by first | rfl | (simp; done) | (simp [*]; done)), (by first | rfl | (simp; done) | (simp [*]; done)), H', ⟨Nat.le_refl _⟩, zz13_5_⟩
 case round =>
  clear H'
  try clear p2
  obtain ⟨x1_1, x8_1, rfl, rfl, HA, HK1, ⟨m1, rfl⟩⟩ := hrel
  cases gk with
  | zero => exact absurd HA.out (by simp [spec_l2Digits.l0])
  | succ k1 =>
   have H := HA.out
   clear HA
   simp only [spec_l2Digits.l0] at H
   by_cases c4 : x1_1 < (a0.size : Int)
   ·rw [if_pos c4] at H
    have c4b0 : decide (x1_1 < (a0.size : Int)) = true := decide_eq_true c4
    clear c4
    by_cases c5 : 0 ≤ x1_1
    ·rw [if_pos c5] at H
     have c5b0 : decide (0 ≤ x1_1) = true := decide_eq_true c5
     clear c5
     by_cases c7 : (bt a0 x1_1) ≥ 48
     ·rw [if_pos c7] at H
      have c7b0 : decide (48 ≤ (bt a0 x1_1)) = true := decide_eq_true c7
      clear c7
      by_cases c9 : (bt a0 x1_1) ≤ 57
      ·rw [if_pos c9] at H
       have c9b0 : decide ((bt a0 x1_1) ≤ 57) = true := decide_eq_true c9
       clear c9
       by_cases c10 : x1_1 < (wrap64 (a1 + a2))
       ·rw [if_pos c10] at H
        have c10b0 : decide (x1_1 < (wrap64 (a1 + a2))) = true := decide_eq_true c10
        clear c10
        have H' := Aside0.mk H
        clear H
        have p6 : 0 ≤ (x1_1 : Int) := of_decide_eq_true (zz13_6_)
        have q6 : x1_1 < (a0.size : Int) := of_decide_eq_true (zz13_6_)
        have hx6 := bt_at a0 x1_1
        replace p6 := eq_true p6
        replace q6 := eq_true q6
        have p8 : 0 ≤ (x1_1 : Int) := of_decide_eq_true (zz13_6_)
        have q8 : x1_1 < (a0.size : Int) := of_decide_eq_true (zz13_6_)
        have hx8 := bt_at a0 x1_1
        replace p8 := eq_true p8
        replace q8 := eq_true q8
        have p11 : 0 ≤ (x1_1 : Int) := of_decide_eq_true (zz13_6_)
        have q11 : x1_1 < (a0.size : Int) := of_decide_eq_true (zz13_6_)
        have hx11 := bt_at a0 x1_1
        replace p11 := eq_true p11
        replace q11 := eq_true q11
        go_wp2
        go_roundg k1
        case measure => have := HK1.out; omega
        case rel => exact ⟨(wrap64 (x1_1 + 1)), (wrap64 ((wrap64 (10 * x8_1)) + (((bt a0 x1_1) - 48) % 256))), (by first | rfl | (simp; done) | (simp [*]; done)), (by first | rfl | (simp; done) | (simp [*]; done)), H', ⟨by have := HK1.out; omega⟩, zz13_5_⟩
       ·rw [if_neg c10] at H
        have c10b0 : decide (x1_1 < (wrap64 (a1 + a2))) = false := decide_eq_false c10
        clear c10
        simp only [Option.some.injEq, Prod.mk.injEq] at H
        obtain ⟨rfl, rfl⟩ := H
        have p6 : 0 ≤ (x1_1 : Int) := of_decide_eq_true (zz13_6_)
        have q6 : x1_1 < (a0.size : Int) := of_decide_eq_true (zz13_6_)
        have hx6 := bt_at a0 x1_1
        replace p6 := eq_true p6
        replace q6 := eq_true q6
        have p8 : 0 ≤ (x1_1 : Int) := of_decide_eq_true (zz13_6_)
        have q8 : x1_1 < (a0.size : Int) := of_decide_eq_true (zz13_6_)
        have hx8 := bt_at a0 x1_1
        replace p8 := eq_true p8
        replace q8 := eq_true q8
        go_wp2
        go_ret2
        exact ⟨by first | rfl | (simp; done) | (simp [*]; done), zz13_5_⟩
      ·rw [if_neg c9] at H
       have c9b0 : decide ((bt a0 x1_1) ≤ 57) = false := decide_eq_false c9
       clear c9
       simp only [Option.some.injEq, Prod.mk.injEq] at H
       obtain ⟨rfl, rfl⟩ := H
       have p6 : 0 ≤ (x1_1 : Int) := of_decide_eq_true (zz13_6_)
       have q6 : x1_1 < (a0.size : Int) := of_decide_eq_true (zz13_6_)
       have hx6 := bt_at a0 x1_1
       replace p6 := eq_true p6
       replace q6 := eq_true q6
       have p8 : 0 ≤ (x1_1 : Int) := of_decide_eq_true (zz13_6_)
       have q8 : x1_1 < (a0.size : Int) := of_decide_eq_true (zz13_6_)
       have hx8 := bt_at a0 x1_1
       replace p8 := eq_true p8
       replace q8 := eq_true q8
       go_wp2
       go_ret2
       exact ⟨by first | rfl | (simp; done) | (simp [*]; done), zz13_5_⟩
     ·rw [if_neg c7] at H
      have c7b0 : decide (48 ≤ (bt a0 x1_1)) = false := decide_eq_false c7
      clear c7
      simp only [Option.some.injEq, Prod.mk.injEq] at H
      obtain ⟨rfl, rfl⟩ := H
      have p6 : 0 ≤ (x1_1 : Int) := of_decide_eq_true (zz13_6_)
      have q6 : x1_1 < (a0.size : Int) := of_decide_eq_true (zz13_6_)
      have hx6 := bt_at a0 x1_1
      replace p6 := eq_true p6
      replace q6 := eq_true q6
      go_wp2
      go_ret2
      exact ⟨by first | rfl | (simp; done) | (simp [*]; done), zz13_5_⟩
    ·rw [if_neg c5] at H
     exact absurd H (by simp)
   ·rw [if_neg c4] at H
    have c4b0 : decide (x1_1 < (a0.size : Int)) = false := decide_eq_false c4
    clear c4
    simp only [Option.some.injEq, Prod.mk.injEq] at H
    obtain ⟨rfl, rfl⟩ := H
    go_wp2
    go_ret2
    exact ⟨by first | rfl | (simp; done) | (simp [*]; done), zz13_5_⟩

/-! ### spec_l2Gcd: function 84 -/
def spec_l2Gcd.l0 : Nat → Int → Int → Option (Int)
 | 0, _, _ => none
 | k + 1, x0, x1 => if x1 = 0 then (some (mx x0 (wrap64 (-x0)))) else (spec_l2Gcd.l0 k x1 (Int.tmod x0 x1))
def spec_l2Gcd.f (k : Nat) (a0 : Int) (a1 : Int) : Option (Int) := spec_l2Gcd.l0 k a0 a1
theorem spec_l2Gcd.mono_l : ∀ k, (∀ y0 y1, LeO (spec_l2Gcd.l0 k y0 y1) (spec_l2Gcd.l0 (k + 1) y0 y1))
 | 0 => fun _ _ r h => by simp [spec_l2Gcd.l0] at h
 | k + 1 => by
  have ih0 := spec_l2Gcd.mono_l k
  ·intro y0 y1
   unfold spec_l2Gcd.l0
   repeat' first
   | (with_reducible exact ih0 _ _)
   | (with_reducible exact LeO.refl _)
   | (with_reducible exact LeO.none _)
   | (with_reducible refine LeO.ite ?_ ?_)
   | (with_reducible refine LeO.bind ?_ (fun _ => ?_))
   | exact ih0 _ _
   | exact LeO.none _
   | refine LeO.ite ?_ ?_
   | refine LeO.bind ?_ (fun _ => ?_)
theorem spec_l2Gcd.mono : ∀ a0 a1 k, LeO (spec_l2Gcd.f k a0 a1) (spec_l2Gcd.f (k + 1) a0 a1) := by
 intro a0 a1 k
 have ih0 := spec_l2Gcd.mono_l k
 unfold spec_l2Gcd.f
 repeat' first
   | (with_reducible exact ih0 _ _)
   | (with_reducible exact LeO.refl _)
   | (with_reducible exact LeO.none _)
   | (with_reducible refine LeO.ite ?_ ?_)
   | (with_reducible refine LeO.bind ?_ (fun _ => ?_))
   | exact ih0 _ _
   | exact LeO.none _
   | refine LeO.ite ?_ ?_
   | refine LeO.bind ?_ (fun _ => ?_)
set_option maxHeartbeats 8000000 in
set_option maxRecDepth 100000 in
theorem spec_l2Gcd.calls (k : Nat) (a0 : Int) (a1 : Int) (r : Int) (w : World) (h : spec_l2Gcd.f k a0 a1 = some r) :
  Calls Tryz.prog 84 #[.int .i64 a0, .int .i64 a1] w fun e w' => e = .returned (.int .i64 r) ∧ Below w.heap.size w w' := by
 have HB := Aside0.mk (Below.refl w.heap.size w)
 have H : (spec_l2Gcd.l0 k a0 a1) = some r := h
 clear h
 have H' := Aside0.mk H
 clear H
 go_enter Tryz.func84, Tryz.ntmps84
 go_wp2
 go_loopg [0, 1] k (fun kq v0 v1 w' => ∃ (x0_1 : Int) (x1_1 : Int), v0 = .int .i64 x0_1 ∧ v1 = .int .i64 x1_1 ∧ Aside0 (spec_l2Gcd.l0 kq x0_1 x1_1 = some r) ∧ Aside0 (kq ≤ k) ∧ Aside0 (Below w.heap.size w w'))
 case atStart => exact ⟨(a0), (a1), (by first | rfl | (simp; done) | (simp [*]; done)), (by first | rfl | (simp; done) | (simp [*]; done)), H', ⟨Nat.le_refl _⟩, ⟨zz13_2_ HB.out⟩⟩
 case round =>
  clear H'
  try clear p2
  obtain ⟨x0_1, x1_1, rfl, rfl, HA, HK1, HB⟩ := hrel
  cases gk with
  | zero => exact absurd HA.out (by simp [spec_l2Gcd.l0])
  | succ k1 =>
   have H := HA.out
   clear HA
   simp only [spec_l2Gcd.l0] at H
   by_cases c3 : x1_1 = 0
   ·rw [if_pos c3] at H
    have c3b0 : (x1_1 == 0) = true := beq_iff_eq.mpr c3
    have c3b1 : (x1_1 != 0) = false := bne_eq_false_iff_eq.mpr c3
    clear c3
    obtain ⟨ji4, hji4⟩ : ∃ j_ : Int, (mx x0_1 (wrap64 (-x0_1))) = j_ := ⟨_, rfl⟩
    replace H : (some ji4) = some r := by first | (rw [hji4] at H; exact H) | (simp only [hji4] at H ⊢; exact H)
    have hji4_ : (if x0_1 < (wrap64 (-x0_1)) then (wrap64 (-x0_1)) else x0_1) = ji4 := hji4
    obtain rfl := Option.some.inj H
    go_wp2
    go_ret
    exact ⟨by first | rfl | (simp [errW_none, errW_some] <;> rfl) | (simp only [← hji4]; first | rfl | (simp [errW_none, errW_some] <;> rfl)) | (simp [*, errW_none, errW_some] <;> rfl), zz13_2_ HB.out⟩
   ·rw [if_neg c3] at H
    have c3b0 : (x1_1 == 0) = false := beq_eq_false_iff_ne.mpr c3
    have c3b1 : (x1_1 != 0) = true := bne_iff_ne.mpr c3
    have H' := Aside0.mk H
    clear H
    go_wp2
    go_roundg k1
    case measure => have := HK1.out; omega
    case rel => exact ⟨(x1_1), (Int.tmod x0_1 x1_1), (by first | rfl | (simp; done) | (simp [*]; done)), (by first | rfl | (simp; done) | (simp [*]; done)), H', ⟨by have := HK1.out; omega⟩, ⟨zz13_2_ HB.out⟩⟩

end Go.Proofs.YtifeiepociopoaaGreatDoor.PEd
