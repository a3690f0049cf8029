-- Written for this session by its program hprint.py over the kit's print: functions, and contracts that the walk of the Go code proves.
import Derived.Test.YtifeiepociopoaaGreatDoorPEdx0
import Derived.Test.YtifeiepociopoaaGreatDoorPEdx8
import Derived.Test.YtifeiepociopoaaGreatDoorPEdx13
import Derived.Test.YtifeiepociopoaaGreatDoorPEdx21
namespace Go.Proofs.YtifeiepociopoaaGreatDoor.PEd
open Go.RowKit Go.Proofs.YtifeiepociopoaaGreatDoor.Hand Go.Proofs.YtifeiepociopoaaGreatDoorW.PrintWords Go.Proofs.YtifeiepociopoaaGreatDoorW.PrintLast Go.Proofs.YtifeiepociopoaaGreatDoorW.PrintMore
attribute [local go_sem] max2_int min2_int max_two min_two max_three min_three max_four min_four   -- for this text's walks alone
set_option linter.unusedVariables false
set_option linter.unusedSimpArgs false

/-! ### laws_FnExprDepth: function 4 -/
theorem zz22_1_ {P1 Q : Prop} (h1 : P1) (f : P1 → Q := by intro zq1_; repeat (first | (with_reducible first | exact zq1_ | apply below_alloc | apply pw_below_drewN | apply below_drew1) | exact zq1_)) : Q := f h1
theorem zz22_0_ {Q : Prop} (f : Q := by (try simp only [List.map_toArray, List.map_cons, List.map_nil]); first | done | rfl | (simp only [List.length_drop, List.length_take]; rfl)) : Q := f
theorem zz22_2_ {P1 P2 Q : Prop} (h1 : P1) (h2 : P2) (f : P1 → P2 → Q := by intro zq1_ zq2_; first | exact zq1_ | exact tab_at zq1_ (by repeat (first | (with_reducible first | exact zq2_ | apply below_alloc | apply pw_below_drewN | apply below_drew1) | exact zq2_))) : Q := f h1 h2
theorem zz22_3_ {P1 Q : Prop} (h1 : P1) (f : P1 → Q := by intro zq1_; repeat (first | exact (Kd.Q_reads' zq1_).2.2 | (with_reducible refine Kd.C_alloc ?_ _) | (with_reducible refine Kd.C_drewN ?_ _) | (with_reducible refine Kd.C_drew ?_))) : Q := f h1
theorem zz22_4_ {P1 Q : Prop} (h1 : P1) (f : P1 → Q := by intro zq1_; (with_reducible repeat (first | apply Kd.Q_alloc | apply Kd.Q_drewN | apply Kd.Q_drew)); exact zq1_) : Q := f h1
theorem zz22_6_ {P1 Q : Prop} (h1 : P1) (f : P1 → Q := by intro zq1_; (with_reducible repeat (first | apply Kd.R_alloc | apply Kd.R_drewN | apply Kd.R_drew)); exact zq1_) : Q := f h1
theorem zz22_5_ {Q : Prop} (f : Q := by first | (with_reducible assumption) | assumption) : Q := f
theorem zz22_7_ {P1 Q : Prop} (h1 : P1) (f : P1 → Q := by intro zq1_; repeat (first | (with_reducible exact zq1_) | (with_reducible refine Kd.C_alloc ?_ _) | (with_reducible refine Kd.C_drewN ?_ _) | (with_reducible refine Kd.C_drew ?_) | exact zq1_)) : Q := f h1
def laws_FnExprDepth.l0 : Nat → List (S35) → Int → Int → List Int → Int → Option (Bool)
 | 0, _, _, _, _, _ => none
 | k + 1, x3, x4, x5, x6, x7 => if x7 < (x6.length : Int) then (if 0 ≤ x7 then ((impl_ExprEnd.f k x3 (rd x6 x7)).bind fun t470 => (if t470 < (rd x6 x7) then (none) else (if t470 > (x3.length : Int) then (none) else (if 0 ≤ (rd x6 x7) then (if (rd x6 x7) ≤ t470 then (if t470 ≤ (x3.length : Int) then ((impl_ExprDepth.f k ((x3.take (t470 : Int).toNat).drop ((rd x6 x7) : Int).toNat)).bind fun t477 => (laws_FnExprDepth.l0 k x3 x4 (mx x5 t477) x6 (wrap64 (x7 + 1)))) else (none)) else (none)) else (none))))) else (none)) else (if x4 = (wrap64 (x5 + 1)) then (some (decide (x4 ≤ 12))) else (none))
def laws_FnExprDepth.f (k : Nat) (l0 : List Int) : Option (Bool) := if (l0.length : Int) > 1048576 then (some true) else ((spec_DrawExprDepth.f k l0).bind fun t460 => ((impl_ExprDepth.f k t460).bind fun t463 => ((spec_ExprDepth.f k t460).bind fun t464 => (if t463 = t464 then (if t463 < 0 then (if t463 = (-1) then ((laws_alive.f k).bind fun t465 => (some t465)) else (none)) else ((impl_ExprParts.f k t460 0).bind fun t466 => (laws_FnExprDepth.l0 k t460 t463 0 t466 0))) else (none)))))
theorem laws_FnExprDepth.mono_l : ∀ k, (∀ y0 y1 y2 y3 y4, LeO (laws_FnExprDepth.l0 k y0 y1 y2 y3 y4) (laws_FnExprDepth.l0 (k + 1) y0 y1 y2 y3 y4))
 | 0 => fun _ _ _ _ _ r h => by simp [laws_FnExprDepth.l0] at h
 | k + 1 => by
  have ih0 := laws_FnExprDepth.mono_l k
  ·intro y0 y1 y2 y3 y4
   unfold laws_FnExprDepth.l0
   repeat' first
   | (with_reducible exact ih0 _ _ _ _ _)
   | (with_reducible exact impl_ExprDepth.mono _ _)
   | (with_reducible exact impl_ExprEnd.mono _ _ _)
   | (with_reducible exact impl_ExprParts.mono _ _ _)
   | (with_reducible exact laws_alive.mono _)
   | (with_reducible exact spec_DrawExprDepth.mono _ _)
   | (with_reducible exact spec_ExprDepth.mono _ _)
   | (with_reducible exact LeO.refl _)
   | (with_reducible exact LeO.none _)
   | (with_reducible refine LeO.ite ?_ ?_)
   | (with_reducible refine LeO.bind ?_ (fun _ => ?_))
   | exact ih0 _ _ _ _ _
   | exact impl_ExprDepth.mono _ _
   | exact impl_ExprEnd.mono _ _ _
   | exact impl_ExprParts.mono _ _ _
   | exact laws_alive.mono _
   | exact spec_DrawExprDepth.mono _ _
   | exact spec_ExprDepth.mono _ _
   | exact LeO.none _
   | refine LeO.ite ?_ ?_
   | refine LeO.bind ?_ (fun _ => ?_)
theorem laws_FnExprDepth.mono : ∀ a0 k, LeO (laws_FnExprDepth.f k a0) (laws_FnExprDepth.f (k + 1) a0) := by
 intro a0 k
 have ih0 := laws_FnExprDepth.mono_l k
 unfold laws_FnExprDepth.f
 repeat' first
   | (with_reducible exact ih0 _ _ _ _ _)
   | (with_reducible exact impl_ExprDepth.mono _ _)
   | (with_reducible exact impl_ExprEnd.mono _ _ _)
   | (with_reducible exact impl_ExprParts.mono _ _ _)
   | (with_reducible exact laws_alive.mono _)
   | (with_reducible exact spec_DrawExprDepth.mono _ _)
   | (with_reducible exact spec_ExprDepth.mono _ _)
   | (with_reducible exact LeO.refl _)
   | (with_reducible exact LeO.none _)
   | (with_reducible refine LeO.ite ?_ ?_)
   | (with_reducible refine LeO.bind ?_ (fun _ => ?_))
   | exact ih0 _ _ _ _ _
   | exact impl_ExprDepth.mono _ _
   | exact impl_ExprEnd.mono _ _ _
   | exact impl_ExprParts.mono _ _ _
   | exact laws_alive.mono _
   | exact spec_DrawExprDepth.mono _ _
   | exact spec_ExprDepth.mono _ _
   | exact LeO.none _
   | refine LeO.ite ?_ ?_
   | refine LeO.bind ?_ (fun _ => ?_)
set_option maxHeartbeats 8000000 in
set_option maxRecDepth 100000 in
theorem laws_FnExprDepth.calls (k : Nat) (A0 : Option Addr) (c0 : Nat) (l0 : List Int) (r : Bool) (w : World) (hr0 : Kd.C (Kd.int .u8) w A0 l0.length l0) (hc0 : l0.length ≤ c0) (htab : Tab10 w) (h : laws_FnExprDepth.f k l0 = some r) :
  Calls Tryz.prog 4 #[.slice A0 l0.length c0] w fun e w' => e = .returned (.bool r) ∧ Below w.heap.size w w' := by
 have HTAB := Aside0.mk htab
 clear htab
 have HR0 := Aside0.mk hr0
 have HC0 := Aside0.mk hc0
 clear hr0 hc0
 have HB := Aside0.mk (Below.refl w.heap.size w)
 have H : (if (l0.length : Int) > 1048576 then (some true) else ((spec_DrawExprDepth.f k l0).bind fun t460 => ((impl_ExprDepth.f k t460).bind fun t463 => ((spec_ExprDepth.f k t460).bind fun t464 => (if t463 = t464 then (if t463 < 0 then (if t463 = (-1) then ((laws_alive.f k).bind fun t465 => (some t465)) else (none)) else ((impl_ExprParts.f k t460 0).bind fun t466 => (laws_FnExprDepth.l0 k t460 t463 0 t466 0))) else (none)))))) = some r := h
 clear h
 by_cases c2 : (l0.length : Int) > 1048576
 ·rw [if_pos c2] at H
  have c2b0 : decide (1048576 < (l0.length : Int)) = true := decide_eq_true c2
  have c2b1 : decide (1048576 < l0.length) = true := decide_eq_true (by omega)
  clear c2
  obtain rfl := Option.some.inj H
  go_enter Tryz.func4, Tryz.ntmps4
  go_wp2
  go_ret
  exact ⟨by first | rfl | (simp [errW_none, errW_some] <;> rfl) | (simp [*, errW_none, errW_some] <;> rfl), zz22_1_ HB.out⟩
 ·rw [if_neg c2] at H
  have c2b0 : decide (1048576 < (l0.length : Int)) = false := decide_eq_false c2
  have c2b1 : decide (1048576 < l0.length) = false := decide_eq_false (by omega)
  clear c2
  replace H := Option.bind_eq_some_iff.mp H
  obtain ⟨t460, A30, H⟩ := H
  try dsimp only at H
  have A3 := Aside0.mk A30
  clear A30
  replace H := Option.bind_eq_some_iff.mp H
  obtain ⟨t463, A40, H⟩ := H
  try dsimp only at H
  have A4 := Aside0.mk A40
  clear A40
  replace H := Option.bind_eq_some_iff.mp H
  obtain ⟨t464, A50, H⟩ := H
  try dsimp only at H
  have A5 := Aside0.mk A50
  clear A50
  by_cases c6 : t463 = t464
  ·rw [if_pos c6] at H
   have c6b0 : (t463 == t464) = true := beq_iff_eq.mpr c6
   have c6b1 : (t463 != t464) = false := bne_eq_false_iff_eq.mpr c6
   clear c6
   by_cases c7 : t463 < 0
   ·rw [if_pos c7] at H
    have c7b0 : decide (t463 < 0) = true := decide_eq_true c7
    clear c7
    by_cases c8 : t463 = (-1)
    ·rw [if_pos c8] at H
     have c8b0 : (t463 == (-1)) = true := beq_iff_eq.mpr c8
     have c8b1 : (t463 != (-1)) = false := bne_eq_false_iff_eq.mpr c8
     clear c8
     replace H := Option.bind_eq_some_iff.mp H
     obtain ⟨t465, A90, H⟩ := H
     try dsimp only at H
     have A9 := Aside0.mk A90
     clear A90
     obtain rfl := Option.some.inj H
     go_enter Tryz.func4, Tryz.ntmps4
     go_wp2_with (first | ((with_reducible refine gate_callee (f := 11) rfl ?_); refine goesL_ (some 13) rfl rfl Tryz.func11 (by kernel_rfl) rfl #[.slice A0 l0.length c0] rfl (zz22_0_) ?_; (with_reducible refine (spec_DrawExprDepth.calls k _ _ l0 t460 _ ?side1 ?side2 A3.out).mono ?_); (case side1 => repeat (first | exact HR0.out | (with_reducible refine Kd.C_alloc ?_ _) | (with_reducible refine Kd.C_drewN ?_ _) | (with_reducible refine Kd.C_drew ?_))); (case side2 => exact HC0.out); rintro e w10 ⟨v461, rfl, ho0, hb⟩; refine ⟨_, rfl, ?_⟩; have n0_ := Aside0.mk (Kd.Q_lower ho0 (below_size (zz22_1_ HB.out))); have n1_ := Aside0.mk (below_step (zz22_1_ HB.out) hb); clear HB; have HO462 := n0_; have HB := n1_; clear n0_ n1_; (try clear hb); (try clear hb2); (try clear hk); (try clear hi); (try clear ho0); obtain ⟨Ao11, co11, eo11, _⟩ := Kd.Q_slice HO462.out; subst eo11) | ((with_reducible refine gate_callee (f := 12) rfl ?_); refine goesL_ (some 15) rfl rfl Tryz.func12 (by kernel_rfl) rfl #[.slice Ao11 t460.length co11] rfl (zz22_0_) ?_; (with_reducible refine (impl_ExprDepth.calls k _ _ t460 t463 _ ?side1 ?side2 (zz22_2_ HTAB.out HB.out) A4.out).mono ?_); (case side1 => exact zz22_3_ HO462.out); (case side2 => exact (Kd.Q_reads' HO462.out).2.1); rintro e w12 ⟨rfl, hb⟩; refine ⟨_, rfl, ?_⟩; have n0_ := Aside0.mk (Kd.Q_below (zz22_4_ HO462.out) hb); have n1_ := Aside0.mk (below_step (zz22_1_ HB.out) hb); clear HO462; clear HB; have HO462 := n0_; have HB := n1_; clear n0_ n1_; (try clear hb); (try clear hb2); (try clear hk); (try clear hi)) | ((with_reducible refine gate_callee (f := 13) rfl ?_); refine goesL_ (some 18) rfl rfl Tryz.func13 (by kernel_rfl) rfl #[.slice Ao11 t460.length co11] rfl (zz22_0_) ?_; (with_reducible refine (spec_ExprDepth.calls k _ _ t460 t464 _ ?side1 ?side2 A5.out).mono ?_); (case side1 => exact zz22_3_ HO462.out); (case side2 => exact (Kd.Q_reads' HO462.out).2.1); rintro e w13 ⟨rfl, hb⟩; refine ⟨_, rfl, ?_⟩; have n0_ := Aside0.mk (Kd.Q_below (zz22_4_ HO462.out) hb); have n1_ := Aside0.mk (below_step (zz22_1_ HB.out) hb); clear HO462; clear HB; have HO462 := n0_; have HB := n1_; clear n0_ n1_; (try clear hb); (try clear hb2); (try clear hk); (try clear hi)) | (go_at_call 9; (with_reducible refine (laws_alive.calls k  t465 _ A9.out).mono ?_); rintro e w' ⟨rfl, ⟨nd, rfl⟩⟩))
     go_ret
     exact ⟨by first | rfl | (simp [errW_none, errW_some] <;> rfl) | (simp [*, errW_none, errW_some] <;> rfl), zz22_1_ HB.out⟩
    ·rw [if_neg c8] at H
     exact absurd H (by simp)
   ·rw [if_neg c7] at H
    have c7b0 : decide (t463 < 0) = false := decide_eq_false c7
    clear c7
    replace H := Option.bind_eq_some_iff.mp H
    obtain ⟨t466, A140, H⟩ := H
    try dsimp only at H
    have A14 := Aside0.mk A140
    clear A140
    have H' := Aside0.mk H
    clear H
    go_enter Tryz.func4, Tryz.ntmps4
    go_wp2_with (first | ((with_reducible refine gate_callee (f := 11) rfl ?_); refine goesL_ (some 13) rfl rfl Tryz.func11 (by kernel_rfl) rfl #[.slice A0 l0.length c0] rfl (zz22_0_) ?_; (with_reducible refine (spec_DrawExprDepth.calls k _ _ l0 t460 _ ?side1 ?side2 A3.out).mono ?_); (case side1 => repeat (first | exact HR0.out | (with_reducible refine Kd.C_alloc ?_ _) | (with_reducible refine Kd.C_drewN ?_ _) | (with_reducible refine Kd.C_drew ?_))); (case side2 => exact HC0.out); rintro e w15 ⟨v461, rfl, ho0, hb⟩; refine ⟨_, rfl, ?_⟩; have n0_ := Aside0.mk (Kd.Q_lower ho0 (below_size (zz22_1_ HB.out))); have n1_ := Aside0.mk (below_step (zz22_1_ HB.out) hb); clear HB; have HO462 := n0_; have HB := n1_; clear n0_ n1_; (try clear hb); (try clear hb2); (try clear hk); (try clear hi); (try clear ho0); obtain ⟨Ao16, co16, eo16, _⟩ := Kd.Q_slice HO462.out; subst eo16) | ((with_reducible refine gate_callee (f := 12) rfl ?_); refine goesL_ (some 15) rfl rfl Tryz.func12 (by kernel_rfl) rfl #[.slice Ao16 t460.length co16] rfl (zz22_0_) ?_; (with_reducible refine (impl_ExprDepth.calls k _ _ t460 t463 _ ?side1 ?side2 (zz22_2_ HTAB.out HB.out) A4.out).mono ?_); (case side1 => exact zz22_3_ HO462.out); (case side2 => exact (Kd.Q_reads' HO462.out).2.1); rintro e w17 ⟨rfl, hb⟩; refine ⟨_, rfl, ?_⟩; have n0_ := Aside0.mk (Kd.Q_below (zz22_4_ HO462.out) hb); have n1_ := Aside0.mk (below_step (zz22_1_ HB.out) hb); clear HO462; clear HB; have HO462 := n0_; have HB := n1_; clear n0_ n1_; (try clear hb); (try clear hb2); (try clear hk); (try clear hi)) | ((with_reducible refine gate_callee (f := 13) rfl ?_); refine goesL_ (some 18) rfl rfl Tryz.func13 (by kernel_rfl) rfl #[.slice Ao16 t460.length co16] rfl (zz22_0_) ?_; (with_reducible refine (spec_ExprDepth.calls k _ _ t460 t464 _ ?side1 ?side2 A5.out).mono ?_); (case side1 => exact zz22_3_ HO462.out); (case side2 => exact (Kd.Q_reads' HO462.out).2.1); rintro e w18 ⟨rfl, hb⟩; refine ⟨_, rfl, ?_⟩; have n0_ := Aside0.mk (Kd.Q_below (zz22_4_ HO462.out) hb); have n1_ := Aside0.mk (below_step (zz22_1_ HB.out) hb); clear HO462; clear HB; have HO462 := n0_; have HB := n1_; clear n0_ n1_; (try clear hb); (try clear hb2); (try clear hk); (try clear hi)) | ((with_reducible refine gate_callee (f := 14) rfl ?_); refine goesL_ (some 28) rfl rfl Tryz.func14 (by kernel_rfl) rfl #[.slice Ao16 t460.length co16, .int .i64 0] rfl (zz22_0_) ?_; (with_reducible refine (impl_ExprParts.calls k _ _ t460 0 t466 _ ?side1 ?side2 (zz22_2_ HTAB.out HB.out) A14.out).mono ?_); (case side1 => exact zz22_3_ HO462.out); (case side2 => exact (Kd.Q_reads' HO462.out).2.1); rintro e w19 ⟨v467, rfl, ho0, hb⟩; refine ⟨_, rfl, ?_⟩; have n0_ := Aside0.mk (Kd.Q_below (zz22_4_ HO462.out) hb); have n1_ := Aside0.mk (Kd.R_lower ho0 (below_size (zz22_1_ HB.out))); have n2_ := Aside0.mk (below_step (zz22_1_ HB.out) hb); clear HO462; clear HB; have HO462 := n0_; have HO468 := n1_; have HB := n2_; clear n0_ n1_ n2_; (try clear hb); (try clear hb2); (try clear hk); (try clear hi); (try clear ho0)))
    go_loopg [5, 7] k (fun kq v5 v7 w' => ∃ (x5_1 : Int) (x7_1 : Int), v5 = .int .i64 x5_1 ∧ v7 = .int .i64 x7_1 ∧ Aside0 (laws_FnExprDepth.l0 kq t460 t463 x5_1 t466 x7_1 = some r) ∧ Aside0 (kq ≤ k) ∧ Aside0 (Kd.Q k35 35 w' w.heap.size (fun _ => True) (.slice Ao16 t460.length co16) t460) ∧ Aside0 (Kd.R (Kd.int .i64) 3 w' w.heap.size (fun _ => True) v467 t466) ∧ Aside0 (Below w.heap.size w w'))
    case atStart => exact ⟨(0), (0), (by first | rfl | (simp; done) | (simp [*]; done)), (by first | rfl | (simp; done) | (simp [*]; done)), H', ⟨Nat.le_refl _⟩, ⟨zz22_4_ HO462.out⟩, ⟨zz22_6_ HO468.out⟩, ⟨zz22_1_ HB.out⟩⟩
    case round =>
     clear H'
     try clear c1
     try clear c2
     try clear c2b0
     try clear c2b1
     try clear p2
     try clear c4
     try clear c6
     try clear c6b0
     try clear c6b1
     try clear c7
     try clear c7b0
     try clear c8
     try clear c8b0
     try clear c8b1
     try clear c11
     try clear c12
     try clear c13
     try clear c14
     obtain ⟨x5_1, x7_1, rfl, rfl, HA, HK1, HO_3, HO_6, HB⟩ := hrel
     cases gk with
     | zero => exact absurd HA.out (by simp [laws_FnExprDepth.l0])
     | succ k1 =>
      have H := HA.out
      clear HA
      simp only [laws_FnExprDepth.l0] at H
      by_cases c20 : x7_1 < (t466.length : Int)
      ·rw [if_pos c20] at H
       have c20b0 : decide (x7_1 < (t466.length : Int)) = true := decide_eq_true c20
       clear c20
       by_cases c21 : 0 ≤ x7_1
       ·rw [if_pos c21] at H
        have c21b0 : decide (0 ≤ x7_1) = true := decide_eq_true c21
        clear c21
        replace H := Option.bind_eq_some_iff.mp H
        obtain ⟨t470, A220, H⟩ := H
        try dsimp only at H
        have A22 := Aside0.mk A220
        clear A220
        by_cases c23 : t470 < (rd t466 x7_1)
        ·rw [if_pos c23] at H
         exact absurd H (by simp)
        ·rw [if_neg c23] at H
         have c23b0 : decide (t470 < (rd t466 x7_1)) = false := decide_eq_false c23
         clear c23
         by_cases c24 : t470 > (t460.length : Int)
         ·rw [if_pos c24] at H
          exact absurd H (by simp)
         ·rw [if_neg c24] at H
          have c24b0 : decide ((t460.length : Int) < t470) = false := decide_eq_false c24
          clear c24
          by_cases c25 : 0 ≤ (rd t466 x7_1)
          ·rw [if_pos c25] at H
           have c25b0 := eq_true c25
           have c25b1 : decide (0 ≤ (rd t466 x7_1)) = true := decide_eq_true c25
           clear c25
           by_cases c26 : (rd t466 x7_1) ≤ t470
           ·rw [if_pos c26] at H
            have c26b0 := eq_true c26
            have c26b1 : decide ((rd t466 x7_1) ≤ t470) = true := decide_eq_true c26
            clear c26
            by_cases c27 : t470 ≤ (t460.length : Int)
            ·rw [if_pos c27] at H
             have c27b0 := eq_true c27
             have c27b1 : decide (t470 ≤ (t460.length : Int)) = true := decide_eq_true c27
             clear c27
             obtain ⟨y473, hy473⟩ : ∃ y_ : List (S35), y_ = ((t460.take (t470 : Int).toNat).drop ((rd t466 x7_1) : Int).toNat) := ⟨_, rfl⟩
             replace H : ((impl_ExprDepth.f k1 y473).bind fun t477 => (laws_FnExprDepth.l0 k1 t460 t463 (mx x5_1 t477) t466 (wrap64 (x7_1 + 1)))) = some r := by first | (rw [hy473]; with_reducible exact H) | (have H2_ := (Option.bind_some _ _).symm.trans H; rw [hy473]; with_reducible exact H2_) | (have H2_ := (Option.bind_some _ _).symm.trans H; with_reducible exact H2_) | with_reducible exact H | (rw [hy473]; exact H) | exact H
             have Ny473 := Aside0.mk hy473
             clear hy473
             replace H := Option.bind_eq_some_iff.mp H
             obtain ⟨t477, A280, H⟩ := H
             try dsimp only at H
             have A28 := Aside0.mk A280
             clear A280
             obtain ⟨ji29, hji29⟩ : ∃ j_ : Int, (mx x5_1 t477) = j_ := ⟨_, rfl⟩
             replace H : (laws_FnExprDepth.l0 k1 t460 t463 ji29 t466 (wrap64 (x7_1 + 1))) = some r := by first | (rw [hji29] at H; exact H) | (simp only [hji29] at H ⊢; exact H)
             (try rw [hji29] at A22)
             (try rw [hji29] at A28)
             have hji29_ : (if x5_1 < t477 then t477 else x5_1) = ji29 := hji29
             have H' := Aside0.mk H
             clear H
             obtain ⟨Ao30, co30, eo30⟩ := Kd.R_slice HO_6.out
             subst eo30
             have p469 : 0 ≤ (x7_1 : Int) := of_decide_eq_true (zz22_5_)
             have q469 : x7_1 < (t466.length : Int) := of_decide_eq_true (zz22_5_)
             obtain ⟨ad469, e469, hx469_0⟩ := Kd.at_int (Kd.R_reads' HO_6.out).2.2 x7_1 p469 q469
             cases e469
             replace p469 := eq_true p469
             replace q469 := eq_true q469
             go_wp2_with (first | ((with_reducible refine gate_callee (f := 7) rfl ?_); refine goesL_ (some 40) rfl rfl Tryz.func7 (by kernel_rfl) rfl #[.slice Ao16 t460.length co16, .int .i64 (rd t466 x7_1)] rfl (zz22_0_) ?_; (with_reducible refine (impl_ExprEnd.calls k1 _ _ t460 (rd t466 x7_1) t470 _ ?side1 ?side2 (zz22_2_ HTAB.out HB.out) A22.out).mono ?_); (case side1 => exact zz22_3_ HO_3.out); (case side2 => exact (Kd.Q_reads' HO_3.out).2.1); rintro e w31 ⟨rfl, hb⟩; refine ⟨_, rfl, ?_⟩; have n0_ := Aside0.mk (Kd.Q_below (zz22_4_ HO_3.out) hb); have n1_ := Aside0.mk (Kd.R_below (zz22_6_ HO_6.out) hb); have n2_ := Aside0.mk (below_step (zz22_1_ HB.out) hb); clear HO_3; clear HO_6; clear HB; have HO_3 := n0_; have HO_6 := n1_; have HB := n2_; clear n0_ n1_ n2_; (try clear hb); (try clear hb2); (try clear hk); (try clear hi); have p471 : 0 ≤ (x7_1 : Int) := of_decide_eq_true (zz22_5_); have q471 : x7_1 < (t466.length : Int) := of_decide_eq_true (zz22_5_); obtain ⟨ad471, e471, hx471_0⟩ := Kd.at_int (Kd.R_reads' HO_6.out).2.2 x7_1 p471 q471; obtain rfl : ad469 = ad471 := (by injection e471); replace p471 := eq_true p471; replace q471 := eq_true q471; have p472 : 0 ≤ (x7_1 : Int) := of_decide_eq_true (zz22_5_); have q472 : x7_1 < (t466.length : Int) := of_decide_eq_true (zz22_5_); obtain ⟨ad472, e472, hx472_0⟩ := Kd.at_int (Kd.R_reads' HO_6.out).2.2 x7_1 p472 q472; obtain rfl : ad469 = ad472 := (by injection e472); replace p472 := eq_true p472; replace q472 := eq_true q472; have q32 : (t470 : Int) ≤ ((t460.length : Int) : Int) := of_decide_eq_true (zz22_5_); obtain ⟨i032, hi032, _, hsz32, _⟩ := info_parts info35; have hroom32 : t460.length ≤ co16 := (Kd.Q_reads' HO_3.out).2.1; have hC32 : Kd.C k35 _ Ao16 t460.length t460 := (Kd.Q_reads' HO_3.out).2.2; have ql32 : ((rd t466 x7_1) : Int) ≤ (t470 : Int) := of_decide_eq_true (zz22_5_); have q032 : (0 : Int) ≤ ((rd t466 x7_1) : Int) := of_decide_eq_true (zz22_5_); have hcut32 := cut_mid (P := Tryz.prog) 23 35 .i64 .i64 Tryz.underlying23 hi032 3 hsz32 Ao16 t460.length co16 (rd t466 x7_1) t470 q032 ql32 q32 hroom32; have hr32 := Kd.C_mid (lo := ((rd t466 x7_1) : Int).toNat) (hi := (t470 : Int).toNat) (c := co16) hC32 (by omega) (by omega) hroom32; obtain ⟨A32, hA32⟩ : ∃ A1, A1 = (if co16 = ((rd t466 x7_1) : Int).toNat then Ao16 else (Ao16 : Option Addr).map (·.add (((rd t466 x7_1) : Int).toNat * 3))) := ⟨_, rfl⟩; obtain ⟨c32, hc32⟩ : ∃ c1, c1 = co16 - ((rd t466 x7_1) : Int).toNat := ⟨_, rfl⟩; have hy32 : y473.length = (t470 : Int).toNat - ((rd t466 x7_1) : Int).toNat := (by rw [Ny473.out, List.length_drop, List.length_take] <;> omega); rw [show ((t460).take (t470 : Int).toNat).drop ((rd t466 x7_1) : Int).toNat = y473 from Ny473.out.symm] at hr32; replace hr32 : Kd.C k35 _ A32 y473.length y473 := (by rw [hA32]; exact hr32); rw [← hy32, ← hA32, ← hc32] at hcut32; have HR476 := Aside0.mk hr32; have HC476 := Aside0.mk (show y473.length ≤ c32 from by rw [hy32, hc32]; exact Nat.sub_le_sub_right (Nat.le_trans (by omega) hroom32) _); clear hr32 hC32 hroom32 hi032 hsz32 hc32; have KY32 := Aside0.mk hy32; have KA32 := Aside0.mk hA32; clear hy32 hA32; have KL32 := Aside0.mk (show (t470 : Int).toNat ≤ t460.length from by omega); have KM32 := Aside0.mk (show ((rd t466 x7_1) : Int).toNat ≤ (t470 : Int).toNat from by omega); replace q32 := eq_true q32) | ((with_reducible refine gate_callee (f := 12) rfl ?_); refine goesL_ (some 61) rfl rfl Tryz.func12 (by kernel_rfl) rfl #[.slice A32 y473.length c32] rfl (zz22_0_) ?_; (with_reducible refine (impl_ExprDepth.calls k1 _ _ y473 t477 _ ?side1 ?side2 (zz22_2_ HTAB.out HB.out) A28.out).mono ?_); (case side1 => repeat (first | exact (zz22_7_ HR476.out) | (with_reducible refine Kd.C_alloc ?_ _) | (with_reducible refine Kd.C_drewN ?_ _) | (with_reducible refine Kd.C_drew ?_))); (case side2 => exact HC476.out); rintro e w33 ⟨rfl, hb⟩; refine ⟨_, rfl, ?_⟩; have n0_ := Aside0.mk (Kd.Q_below (zz22_4_ HO_3.out) hb); have n1_ := Aside0.mk (Kd.R_below (zz22_6_ HO_6.out) hb); have n2_ := Aside0.mk (Kd.C_below (zz22_7_ HR476.out) hb); have n3_ := Aside0.mk (below_step (zz22_1_ HB.out) hb); clear HO_3; clear HO_6; clear HR476; clear HB; have HO_3 := n0_; have HO_6 := n1_; have HR476 := n2_; have HB := n3_; clear n0_ n1_ n2_ n3_; (try clear hb); (try clear hb2); (try clear hk); (try clear hi)))
             go_roundg k1
             case measure => have := HK1.out; omega
             case rel => exact ⟨(ji29), (wrap64 (x7_1 + 1)), (by first | rfl | (simp; done) | (simp only [← hji29] <;> (first | rfl | simp)) | (simp [*]; done)), (by first | rfl | (simp; done) | (simp [*]; done)), H', ⟨by have := HK1.out; omega⟩, ⟨zz22_4_ HO_3.out⟩, ⟨zz22_6_ HO_6.out⟩, ⟨zz22_1_ HB.out⟩⟩
            ·rw [if_neg c27] at H
             exact absurd H (by simp)
           ·rw [if_neg c26] at H
            exact absurd H (by simp)
          ·rw [if_neg c25] at H
           exact absurd H (by simp)
       ·rw [if_neg c21] at H
        exact absurd H (by simp)
      ·rw [if_neg c20] at H
       have c20b0 : decide (x7_1 < (t466.length : Int)) = false := decide_eq_false c20
       clear c20
       by_cases c34 : t463 = (wrap64 (x5_1 + 1))
       ·rw [if_pos c34] at H
        have c34b0 : (t463 == (wrap64 (x5_1 + 1))) = true := beq_iff_eq.mpr c34
        have c34b1 : (t463 != (wrap64 (x5_1 + 1))) = false := bne_eq_false_iff_eq.mpr c34
        clear c34
        obtain rfl := Option.some.inj H
        obtain ⟨Ao35, co35, eo35⟩ := Kd.R_slice HO_6.out
        subst eo35
        go_wp2
        go_ret
        exact ⟨by first | rfl | (simp [errW_none, errW_some] <;> rfl) | (simp [*, errW_none, errW_some] <;> rfl), zz22_1_ HB.out⟩
       ·rw [if_neg c34] at H
        exact absurd H (by simp)
  ·rw [if_neg c6] at H
   exact absurd H (by simp)

/-- THE ONE PURE STATEMENT of laws_FnExprDepth: yours. -/
def laws_FnExprDepth.Pure : Prop := ∀ (l0 : List Int), l0.length ≤ maxLen → l0.length * 1 ≤ 140737488351232 → (∀ x ∈ l0, (Lit.int .u8 x).wf = true) → ∃ k, laws_FnExprDepth.f k l0 = some true
theorem laws_FnExprDepth.walk (P : laws_FnExprDepth.Pure) (a0 : Option Addr) (len0 cap0 : Nat) (z0 : List Int) (w : World) (w0 : (a0 = none ∧ len0 = 0 ∧ cap0 = 0 ∧ z0 = []) ∨ ∃ x, a0 = some x ∧ len0 ≤ cap0 ∧ cap0 ≤ maxLen ∧ z0.length = cap0 ∧ (∀ i, i < z0.length → w.cell? (x.add i) = some (.int .u8 (z0.getD i 0))) ∧ ∀ n ∈ z0, (Lit.int .u8 n).wf = true) (y0 : len0 * 1 ≤ 140737488351232) (htab : Tab10 w) :
  Calls Tryz.prog 4 #[.slice a0 len0 cap0] w fun e w' => e = .returned (.bool true) ∧ Below w.heap.size w w' := by
 obtain ⟨l0, rfl, hr0, hm0, hw0, hc0⟩ := ReadsInt.ofRowC w0
 obtain ⟨k, h⟩ := P l0 hm0 y0 hw0
 refine (laws_FnExprDepth.calls k _ _ l0 true w (Kd.C_of_reads (d := (0 : Int)) (h1 := fun _ => rfl) hr0) hc0 htab h).mono ?_
 rintro e w' ⟨rfl, hd⟩
 exact ⟨rfl, hd⟩

end Go.Proofs.YtifeiepociopoaaGreatDoor.PEd
