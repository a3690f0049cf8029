-- Written for this session by its program hprint.py over the kit's print: functions, and contracts that the walk of the Go code proves.
import Derived.Test.YtifeiepociopoaaGreatDoorPEvx0
import Derived.Test.YtifeiepociopoaaGreatDoorPEvx1
import Derived.Test.YtifeiepociopoaaGreatDoorPEvx8
import Derived.Test.YtifeiepociopoaaGreatDoorPEvx13
import Derived.Test.YtifeiepociopoaaGreatDoorPEvx21
namespace Go.Proofs.YtifeiepociopoaaGreatDoor.PEv
open Go.RowKit Go.Proofs.YtifeiepociopoaaGreatDoor.Hand Go.Proofs.YtifeiepociopoaaGreatDoorW.PrintWords Go.Proofs.YtifeiepociopoaaGreatDoorW.PrintLast Go.Proofs.YtifeiepociopoaaGreatDoorW.PrintMore
attribute [local go_sem] max2_int min2_int max_two min_two max_three min_three max_four min_four   -- for this text's walks alone
set_option linter.unusedVariables false
set_option linter.unusedSimpArgs false

/-! ### laws_FnExprValid: function 5 -/
theorem zz22_2_ {P1 Q : Prop} (h1 : P1) (f : P1 → Q := by intro zq1_; repeat (first | (with_reducible first | exact zq1_ | apply below_alloc | apply pw_below_drewN | apply below_drew1) | exact zq1_)) : Q := f h1
theorem zz22_0_ {Q : Prop} (f : Q := by (try simp only [List.map_toArray, List.map_cons, List.map_nil]); first | done | rfl | (simp only [List.length_drop, List.length_take]; rfl)) : Q := f
theorem zz22_1_ {P1 Q : Prop} (h1 : P1) (f : P1 → Q := by intro zq1_; repeat (first | exact zq1_ | (with_reducible refine Kd.C_alloc ?_ _) | (with_reducible refine Kd.C_drewN ?_ _) | (with_reducible refine Kd.C_drew ?_))) : Q := f h1
theorem zz22_3_ {P1 P2 Q : Prop} (h1 : P1) (h2 : P2) (f : P1 → P2 → Q := by intro zq1_ zq2_; first | exact zq1_ | exact tab_at zq1_ (by repeat (first | (with_reducible first | exact zq2_ | apply below_alloc | apply pw_below_drewN | apply below_drew1) | exact zq2_))) : Q := f h1 h2
theorem zz22_4_ {P1 Q : Prop} (h1 : P1) (f : P1 → Q := by intro zq1_; repeat (first | exact (Kd.Q_reads' zq1_).2.2 | (with_reducible refine Kd.C_alloc ?_ _) | (with_reducible refine Kd.C_drewN ?_ _) | (with_reducible refine Kd.C_drew ?_))) : Q := f h1
theorem zz22_5_ {P1 Q : Prop} (h1 : P1) (f : P1 → Q := by intro zq1_; (with_reducible repeat (first | apply Kd.Q_alloc | apply Kd.Q_drewN | apply Kd.Q_drew)); exact zq1_) : Q := f h1
theorem zz22_6_ {P1 Q : Prop} (h1 : P1) (f : P1 → Q := by intro zq1_; (with_reducible repeat (first | apply Kd.R_alloc | apply Kd.R_drewN | apply Kd.R_drew)); exact zq1_) : Q := f h1
theorem zz22_7_ {P1 Q : Prop} (h1 : P1) (f : P1 → Q := by intro zq1_; repeat (first | exact (by repeat (first | (with_reducible exact zq1_) | (with_reducible refine Kd.C_alloc ?_ _) | (with_reducible refine Kd.C_drewN ?_ _) | (with_reducible refine Kd.C_drew ?_) | exact zq1_)) | (with_reducible refine Kd.C_alloc ?_ _) | (with_reducible refine Kd.C_drewN ?_ _) | (with_reducible refine Kd.C_drew ?_))) : Q := f h1
theorem zz22_8_ {P1 Q : Prop} (h1 : P1) (f : P1 → Q := by intro zq1_; repeat (first | (with_reducible exact zq1_) | (with_reducible refine Kd.C_alloc ?_ _) | (with_reducible refine Kd.C_drewN ?_ _) | (with_reducible refine Kd.C_drew ?_) | exact zq1_)) : Q := f h1
def laws_FnExprValid.f (k : Nat) (l0 : List Int) : Option (Bool) := if (l0.length : Int) > 1048576 then (some true) else ((spec_DrawExprValid.f k l0).bind fun t440 => ((impl_ExprValid.f k t440).bind fun t443 => ((spec_ExprValid.f k t440).bind fun t444 => (if (t443 != t444) = true then (none) else (if t443 = true then ((some (([(⟨7, (⟨#[33]⟩ : ByteArray), 1⟩ : S35)] : List (S35)) : List (S35))).bind fun y445 => (if y445.length + t440.length < 4398046511104 then ((some (y445 ++ t440 : List (S35))).bind fun y448 => (if (t440.length : Int) < 60 then ((impl_ExprDepth.f k t440).bind fun t451 => (if 0 ≤ (wrap64 ((t440.length : Int) - 1)) then (if (wrap64 ((t440.length : Int) - 1)) ≤ (t440.length : Int) then ((impl_ExprValid.f k (t440.take ((wrap64 ((t440.length : Int) - 1)) : Int).toNat)).bind fun t456 => (if t456 = true then (none) else ((impl_ExprValid.f k y448).bind fun t457 => (some (t457 == (decide (t451 < 12))))))) else (none)) else (none))) else (if 0 ≤ (wrap64 ((t440.length : Int) - 1)) then (if (wrap64 ((t440.length : Int) - 1)) ≤ (t440.length : Int) then ((impl_ExprValid.f k (t440.take ((wrap64 ((t440.length : Int) - 1)) : Int).toNat)).bind fun t462 => (if t462 = true then (none) else ((impl_ExprValid.f k y448).bind fun t463 => (some (t463 == false))))) else (none)) else (none)))) else (none))) else ((laws_alive.f k).bind fun t464 => (some t464)))))))
theorem laws_FnExprValid.mono : ∀ a0 k, LeO (laws_FnExprValid.f k a0) (laws_FnExprValid.f (k + 1) a0) := by
 intro a0 k
 unfold laws_FnExprValid.f
 repeat' first
   | (with_reducible exact impl_ExprDepth.mono _ _)
   | (with_reducible exact impl_ExprValid.mono _ _)
   | (with_reducible exact laws_alive.mono _)
   | (with_reducible exact spec_DrawExprValid.mono _ _)
   | (with_reducible exact spec_ExprValid.mono _ _)
   | (with_reducible exact LeO.refl _)
   | (with_reducible exact LeO.none _)
   | (with_reducible refine LeO.ite ?_ ?_)
   | (with_reducible refine LeO.bind ?_ (fun _ => ?_))
   | exact impl_ExprDepth.mono _ _
   | exact impl_ExprValid.mono _ _
   | exact laws_alive.mono _
   | exact spec_DrawExprValid.mono _ _
   | exact spec_ExprValid.mono _ _
   | exact LeO.none _
   | refine LeO.ite ?_ ?_
   | refine LeO.bind ?_ (fun _ => ?_)
set_option maxHeartbeats 8000000 in
set_option maxRecDepth 100000 in
theorem laws_FnExprValid.calls (k : Nat) (A0 : Option Addr) (c0 : Nat) (l0 : List Int) (r : Bool) (w : World) (hr0 : Kd.C (Kd.int .u8) w A0 l0.length l0) (hc0 : l0.length ≤ c0) (htab : Tab10 w) (h : laws_FnExprValid.f k l0 = some r) :
  Calls Tryz.prog 5 #[.slice A0 l0.length c0] w fun e w' => e = .returned (.bool r) ∧ Below w.heap.size w w' := by
 have HTAB := Aside0.mk htab
 clear htab
 have hu35 := Tryz.underlying35
 have HR0 := Aside0.mk hr0
 have HC0 := Aside0.mk hc0
 clear hr0 hc0
 have HB := Aside0.mk (Below.refl w.heap.size w)
 have H : (if (l0.length : Int) > 1048576 then (some true) else ((spec_DrawExprValid.f k l0).bind fun t440 => ((impl_ExprValid.f k t440).bind fun t443 => ((spec_ExprValid.f k t440).bind fun t444 => (if (t443 != t444) = true then (none) else (if t443 = true then ((some (([(⟨7, (⟨#[33]⟩ : ByteArray), 1⟩ : S35)] : List (S35)) : List (S35))).bind fun y445 => (if y445.length + t440.length < 4398046511104 then ((some (y445 ++ t440 : List (S35))).bind fun y448 => (if (t440.length : Int) < 60 then ((impl_ExprDepth.f k t440).bind fun t451 => (if 0 ≤ (wrap64 ((t440.length : Int) - 1)) then (if (wrap64 ((t440.length : Int) - 1)) ≤ (t440.length : Int) then ((impl_ExprValid.f k (t440.take ((wrap64 ((t440.length : Int) - 1)) : Int).toNat)).bind fun t456 => (if t456 = true then (none) else ((impl_ExprValid.f k y448).bind fun t457 => (some (t457 == (decide (t451 < 12))))))) else (none)) else (none))) else (if 0 ≤ (wrap64 ((t440.length : Int) - 1)) then (if (wrap64 ((t440.length : Int) - 1)) ≤ (t440.length : Int) then ((impl_ExprValid.f k (t440.take ((wrap64 ((t440.length : Int) - 1)) : Int).toNat)).bind fun t462 => (if t462 = true then (none) else ((impl_ExprValid.f k y448).bind fun t463 => (some (t463 == false))))) else (none)) else (none)))) else (none))) else ((laws_alive.f k).bind fun t464 => (some t464)))))))) = some r := h
 clear h
 by_cases c2 : (l0.length : Int) > 1048576
 ·rw [if_pos c2] at H
  have c2b0 : decide (1048576 < (l0.length : Int)) = true := decide_eq_true c2
  have c2b1 : decide (1048576 < l0.length) = true := decide_eq_true (by omega)
  clear c2
  obtain rfl := Option.some.inj H
  go_enter Tryz.func5, Tryz.ntmps5
  go_wp2
  go_ret
  exact ⟨by first | rfl | (simp [errW_none, errW_some] <;> rfl) | (simp [*, errW_none, errW_some] <;> rfl), zz22_2_ HB.out⟩
 ·rw [if_neg c2] at H
  have c2b0 : decide (1048576 < (l0.length : Int)) = false := decide_eq_false c2
  have c2b1 : decide (1048576 < l0.length) = false := decide_eq_false (by omega)
  clear c2
  replace H := Option.bind_eq_some_iff.mp H
  obtain ⟨t440, A30, H⟩ := H
  try dsimp only at H
  have A3 := Aside0.mk A30
  clear A30
  replace H := Option.bind_eq_some_iff.mp H
  obtain ⟨t443, A40, H⟩ := H
  try dsimp only at H
  have A4 := Aside0.mk A40
  clear A40
  replace H := Option.bind_eq_some_iff.mp H
  obtain ⟨t444, A50, H⟩ := H
  try dsimp only at H
  have A5 := Aside0.mk A50
  clear A50
  by_cases c6 : (t443 != t444) = true
  ·rw [if_pos c6] at H
   exact absurd H (by simp)
  ·rw [if_neg c6] at H
   have c6b0 : (t443 != t444) = false := by simpa using c6
   (try (have c6b1 : decide (t443 = t444) = true := by simpa using c6))
   (try (have c6b2 : (t443 == t444) = true := by simpa using c6))
   clear c6
   by_cases c7 : t443 = true
   ·subst c7
    rw [if_pos rfl] at H
    obtain ⟨y445, hy445⟩ : ∃ y_ : List (S35), y_ = (([(⟨7, (⟨#[33]⟩ : ByteArray), 1⟩ : S35)] : List (S35))) := ⟨_, rfl⟩
    replace H : (if y445.length + t440.length < 4398046511104 then ((some (y445 ++ t440 : List (S35))).bind fun y448 => (if (t440.length : Int) < 60 then ((impl_ExprDepth.f k t440).bind fun t451 => (if 0 ≤ (wrap64 ((t440.length : Int) - 1)) then (if (wrap64 ((t440.length : Int) - 1)) ≤ (t440.length : Int) then ((impl_ExprValid.f k (t440.take ((wrap64 ((t440.length : Int) - 1)) : Int).toNat)).bind fun t456 => (if t456 = true then (none) else ((impl_ExprValid.f k y448).bind fun t457 => (some (t457 == (decide (t451 < 12))))))) else (none)) else (none))) else (if 0 ≤ (wrap64 ((t440.length : Int) - 1)) then (if (wrap64 ((t440.length : Int) - 1)) ≤ (t440.length : Int) then ((impl_ExprValid.f k (t440.take ((wrap64 ((t440.length : Int) - 1)) : Int).toNat)).bind fun t462 => (if t462 = true then (none) else ((impl_ExprValid.f k y448).bind fun t463 => (some (t463 == false))))) else (none)) else (none)))) else (none)) = some r := by first | (rw [hy445]; with_reducible exact H) | (have H2_ := (Option.bind_some _ _).symm.trans H; rw [hy445]; with_reducible exact H2_) | (have H2_ := (Option.bind_some _ _).symm.trans H; with_reducible exact H2_) | with_reducible exact H | (rw [hy445]; exact H) | exact H
    have Ny445 := Aside0.mk hy445
    clear hy445
    by_cases c8 : y445.length + t440.length < 4398046511104
    ·rw [if_pos c8] at H
     have LMc8 := Aside0.mk c8
     clear c8
     obtain ⟨y448, hy448⟩ : ∃ y_ : List (S35), y_ = (y445 ++ t440) := ⟨_, rfl⟩
     replace H : (if (t440.length : Int) < 60 then ((impl_ExprDepth.f k t440).bind fun t451 => (if 0 ≤ (wrap64 ((t440.length : Int) - 1)) then (if (wrap64 ((t440.length : Int) - 1)) ≤ (t440.length : Int) then ((impl_ExprValid.f k (t440.take ((wrap64 ((t440.length : Int) - 1)) : Int).toNat)).bind fun t456 => (if t456 = true then (none) else ((impl_ExprValid.f k y448).bind fun t457 => (some (t457 == (decide (t451 < 12))))))) else (none)) else (none))) else (if 0 ≤ (wrap64 ((t440.length : Int) - 1)) then (if (wrap64 ((t440.length : Int) - 1)) ≤ (t440.length : Int) then ((impl_ExprValid.f k (t440.take ((wrap64 ((t440.length : Int) - 1)) : Int).toNat)).bind fun t462 => (if t462 = true then (none) else ((impl_ExprValid.f k y448).bind fun t463 => (some (t463 == false))))) else (none)) else (none))) = some r := by first | (rw [hy448]; with_reducible exact H) | (have H2_ := (Option.bind_some _ _).symm.trans H; rw [hy448]; with_reducible exact H2_) | (have H2_ := (Option.bind_some _ _).symm.trans H; with_reducible exact H2_) | with_reducible exact H | (rw [hy448]; exact H) | exact H
     have Ny448 := Aside0.mk hy448
     clear hy448
     by_cases c9 : (t440.length : Int) < 60
     ·rw [if_pos c9] at H
      have c9b0 : decide ((t440.length : Int) < 60) = true := decide_eq_true c9
      have c9b1 : decide (t440.length < 60) = true := decide_eq_true (by omega)
      clear c9
      replace H := Option.bind_eq_some_iff.mp H
      obtain ⟨t451, A100, H⟩ := H
      try dsimp only at H
      have A10 := Aside0.mk A100
      clear A100
      obtain ⟨ji11, hji11⟩ : ∃ j_ : Int, (wrap64 ((t440.length : Int) - 1)) = j_ := ⟨_, rfl⟩
      replace H : (if 0 ≤ (ji11) then (if (ji11) ≤ (t440.length : Int) then ((impl_ExprValid.f k (t440.take ((ji11) : Int).toNat)).bind fun t456 => (if t456 = true then (none) else ((impl_ExprValid.f k y448).bind fun t457 => (some (t457 == (decide (t451 < 12))))))) else (none)) else (none)) = some r := by first | (rw [hji11] at H; exact H) | (simp only [hji11] at H ⊢; exact H)
      (try rw [hji11] at A3)
      (try rw [hji11] at A4)
      (try rw [hji11] at A5)
      (try rw [hji11] at A10)
      have hji11w : (IntKind.i64.wrap ((t440.length : Int) - 1)) = ji11 := (i64_w _).trans hji11
      by_cases c12 : 0 ≤ (ji11)
      ·rw [if_pos c12] at H
       have c12b0 := eq_true c12
       have c12b1 : decide (0 ≤ (ji11)) = true := decide_eq_true c12
       clear c12
       by_cases c13 : (ji11) ≤ (t440.length : Int)
       ·rw [if_pos c13] at H
        have c13b0 := eq_true c13
        have c13b1 : decide ((ji11) ≤ (t440.length : Int)) = true := decide_eq_true c13
        clear c13
        obtain ⟨y452, hy452⟩ : ∃ y_ : List (S35), y_ = (t440.take ((ji11) : Int).toNat) := ⟨_, rfl⟩
        replace H : ((impl_ExprValid.f k y452).bind fun t456 => (if t456 = true then (none) else ((impl_ExprValid.f k y448).bind fun t457 => (some (t457 == (decide (t451 < 12))))))) = some r := by first | (rw [hy452]; with_reducible exact H) | (have H2_ := (Option.bind_some _ _).symm.trans H; rw [hy452]; with_reducible exact H2_) | (have H2_ := (Option.bind_some _ _).symm.trans H; with_reducible exact H2_) | with_reducible exact H | (rw [hy452]; exact H) | exact H
        have Ny452 := Aside0.mk hy452
        clear hy452
        replace H := Option.bind_eq_some_iff.mp H
        obtain ⟨t456, A140, H⟩ := H
        try dsimp only at H
        have A14 := Aside0.mk A140
        clear A140
        by_cases c15 : t456 = true
        ·subst c15
         rw [if_pos rfl] at H
         exact absurd H (by simp)
        ·replace c15 := Bool.eq_false_iff.mpr c15
         subst c15
         rw [if_neg (show ¬ (false = true) by decide)] at H
         replace H := Option.bind_eq_some_iff.mp H
         obtain ⟨t457, A160, H⟩ := H
         try dsimp only at H
         have A16 := Aside0.mk A160
         clear A160
         obtain rfl := Option.some.inj H
         go_enter Tryz.func5, Tryz.ntmps5
         go_wp2_with (first | ((with_reducible refine gate_callee (f := 15) rfl ?_); refine goesL_ (some 11) rfl rfl Tryz.func15 (by kernel_rfl) rfl #[.slice A0 l0.length c0] rfl (zz22_0_) ?_; (with_reducible refine (spec_DrawExprValid.calls k _ _ l0 t440 _ ?side1 ?side2 A3.out).mono ?_); (case side1 => exact zz22_1_ HR0.out); (case side2 => exact HC0.out); rintro e w17 ⟨v441, rfl, ho0, hb⟩; refine ⟨_, rfl, ?_⟩; have n0_ := Aside0.mk (Kd.Q_lower ho0 (below_size (zz22_2_ HB.out))); have n1_ := Aside0.mk (below_step (zz22_2_ HB.out) hb); clear HB; have HO442 := n0_; have HB := n1_; clear n0_ n1_; (try clear hb); (try clear hb2); (try clear hk); (try clear hi); (try clear ho0); obtain ⟨Ao18, co18, eo18, _⟩ := Kd.Q_slice HO442.out; subst eo18) | ((with_reducible refine gate_callee (f := 10) rfl ?_); refine goesL_ (some 13) rfl rfl Tryz.func10 (by kernel_rfl) rfl #[.slice Ao18 t440.length co18] rfl (zz22_0_) ?_; (with_reducible refine (impl_ExprValid.calls k _ _ t440 true _ ?side1 ?side2 (zz22_3_ HTAB.out HB.out) A4.out).mono ?_); (case side1 => exact zz22_4_ HO442.out); (case side2 => exact (Kd.Q_reads' HO442.out).2.1); rintro e w19 ⟨rfl, hb⟩; refine ⟨_, rfl, ?_⟩; have n0_ := Aside0.mk (Kd.Q_below (zz22_5_ HO442.out) hb); have n1_ := Aside0.mk (below_step (zz22_2_ HB.out) hb); clear HO442; clear HB; have HO442 := n0_; have HB := n1_; clear n0_ n1_; (try clear hb); (try clear hb2); (try clear hk); (try clear hi)) | ((with_reducible refine gate_callee (f := 16) rfl ?_); refine goesL_ (some 16) rfl rfl Tryz.func16 (by kernel_rfl) rfl #[.slice Ao18 t440.length co18] rfl (zz22_0_) ?_; (with_reducible refine (spec_ExprValid.calls k _ _ t440 t444 _ ?side1 ?side2 A5.out).mono ?_); (case side1 => exact zz22_4_ HO442.out); (case side2 => exact (Kd.Q_reads' HO442.out).2.1); rintro e w20 ⟨rfl, hb⟩; refine ⟨_, rfl, ?_⟩; have n0_ := Aside0.mk (Kd.Q_below (zz22_5_ HO442.out) hb); have n1_ := Aside0.mk (below_step (zz22_2_ HB.out) hb); clear HO442; clear HB; have HO442 := n0_; have HB := n1_; clear n0_ n1_; (try clear hb); (try clear hb2); (try clear hk); (try clear hi)) | ((with_reducible refine gate_dst (N := 22) rfl ?_); refine Kd.R_lit k35 _ 35 ?hg (N := 22) ?hd (xs := ([(⟨7, (⟨#[33]⟩ : ByteArray), 1⟩ : S35)] : List (S35))) (inner := [.int .i64 7, .string (⟨#[33]⟩ : ByteArray), .int .i64 1]) (ok := fun _ => True) (okp := fun _ => True) ?hr ?hp (fun _ hk => hk) trivial (Below.refl _ _) (Nat.le_refl _) (by simp) ?_; (case hd => rfl); (case hg => rfl); (case hr => first | (go_simp; done) | (go_simp; rfl)); (case hp => exact (Reps.c3 (show Kd.M k35 _ _ _ (⟨7, (⟨#[33]⟩ : ByteArray), 1⟩ : S35) [.int .i64 7, .string (⟨#[33]⟩ : ByteArray), .int .i64 1] from (k35_mkM _ _ _ (⟨7, (⟨#[33]⟩ : ByteArray), 1⟩ : S35) )) (Reps.none _ _))); intro v446 w21 ho22 hb hg_ hnew_; clear hg_ hnew_; (first | rw [← Ny445.out] at ho22 | (simp only [Int.reduceToNat] at ho22; rw [← Ny445.out] at ho22)); have n0_ := Aside0.mk (Kd.Q_elder' (zz22_5_ HO442.out) (Kd.R_base ho22) hb); have n1_ := Aside0.mk (Kd.R_lower (Kd.R_new' ho22 (Kd.Q_lt (zz22_5_ HO442.out))) (below_size (zz22_2_ HB.out))); have n2_ := Aside0.mk (below_step (zz22_2_ HB.out) hb); clear HO442; clear HB; have HO442 := n0_; have HO447 := n1_; have HB := n2_; clear n0_ n1_ n2_; clear hb ho22) | ((with_reducible refine gate_builtin (b := .append) (xs := #[.tmp 22, .tmp 23]) rfl ?_); at_builtin; refine Kd.R_append_rows k35 (w0 := w) w.heap.size rfl (.tmp 22) (.tmp 23) 23 35 (.agg #[(.int .i64 0), (.string ⟨#[]⟩), (.int .i64 0)]) 32 rfl Tryz.underlying23 info35 rfl (by decide) (by omega) v446 y445 t440 _ _ _ (fun k_ => some k_ ≠ (.slice Ao18 t440.length co18 : Value).ownBlock) (fun _ => False) rfl rfl ?aO ?aR (fun _ _ h => h) (fun _ h => h.elim) ?aF ?aB ?aS ?aL ?_; (case aR => exact zz22_4_ HO442.out); (case aB => exact (zz22_2_ HB.out)); (case aF => exact (fun k_ hk => Kd.fresh' (Kd.Q_lt (zz22_5_ HO442.out)) k_ hk)); (case aO => exact (by (with_reducible repeat (first | apply Kd.R_alloc | apply Kd.R_drewN | apply Kd.R_drew)); exact Kd.R_mono HO447.out (fun _ hk => hk.2))); (case aS => exact (below_size (zz22_2_ HB.out))); (case aL => have := LMc8.out; omega); intro v449 w23 ho hb hg hat; rw [← Ny448.out] at ho; have n0_ := Aside0.mk (Kd.Q_after (ok := (fun _ => True)) (zz22_5_ HO442.out) hg hat); have n1_ := Aside0.mk (hb); have n2_ := Aside0.mk (ho); clear HO442; clear HB; clear HO447; have HO442 := n0_; have HB := n1_; have HO450 := n2_; clear n0_ n1_ n2_; clear ho hb hg hat) | (go_at_call 12; (with_reducible refine (impl_ExprDepth.calls k _ _ t440 t451 _ ?side1 ?side2 (zz22_3_ HTAB.out HB.out) A10.out).mono ?_); (case side1 => exact zz22_4_ HO442.out); (case side2 => exact (Kd.Q_reads' HO442.out).2.1); rintro e w24 ⟨rfl, hb⟩; have n0_ := Aside0.mk (Kd.Q_below (zz22_5_ HO442.out) hb); have n1_ := Aside0.mk (Kd.R_below (zz22_6_ HO450.out) hb); have n2_ := Aside0.mk (below_step (zz22_2_ HB.out) hb); clear HO442; clear HO450; clear HB; have HO442 := n0_; have HO450 := n1_; have HB := n2_; clear n0_ n1_ n2_; (try clear hb); (try clear hb2); (try clear hk); (try clear hi); have q25 : ((ji11) : Int) ≤ ((t440.length : Int) : Int) := of_decide_eq_true (by first | (with_reducible assumption) | assumption); obtain ⟨i025, hi025, _, hsz25, _⟩ := info_parts info35; have hroom25 : t440.length ≤ co18 := (Kd.Q_reads' HO442.out).2.1; have hC25 : Kd.C k35 _ Ao18 t440.length t440 := (Kd.Q_reads' HO442.out).2.2; have hcut25 := cut_to (P := Tryz.prog) 23 35 .i64 Tryz.underlying23 hi025 Ao18 t440.length co18 (ji11) (of_decide_eq_true (by first | (with_reducible assumption) | assumption)) q25 hroom25; have hr25 := Kd.C_take (m := ((ji11) : Int).toNat) hC25 (by omega); have hy25 : y452.length = ((ji11) : Int).toNat := (by rw [Ny452.out, List.length_take]; omega); rw [← Ny452.out] at hr25; rw [← hy25] at hcut25; have HR455 := Aside0.mk hr25; have HC455 := Aside0.mk (show y452.length ≤ co18 from by omega); clear hr25 hC25 hroom25 hi025 hsz25; have KY25 := Aside0.mk hy25; clear hy25; have KL25 := Aside0.mk (show ((ji11) : Int).toNat ≤ t440.length from by omega); replace q25 := eq_true q25) | ((with_reducible refine gate_callee (f := 10) rfl ?_); refine goesL_ (some 38) rfl rfl Tryz.func10 (by kernel_rfl) rfl #[.slice Ao18 y452.length co18] rfl (zz22_0_) ?_; (with_reducible refine (impl_ExprValid.calls k _ _ y452 false _ ?side1 ?side2 (zz22_3_ HTAB.out HB.out) A14.out).mono ?_); (case side1 => exact zz22_7_ HR455.out); (case side2 => exact HC455.out); rintro e w26 ⟨rfl, hb⟩; refine ⟨_, rfl, ?_⟩; have n0_ := Aside0.mk (Kd.Q_below (zz22_5_ HO442.out) hb); have n1_ := Aside0.mk (Kd.R_below (zz22_6_ HO450.out) hb); have n2_ := Aside0.mk (Kd.C_below (zz22_8_ HR455.out) hb); have n3_ := Aside0.mk (below_step (zz22_2_ HB.out) hb); clear HO442; clear HO450; clear HR455; clear HB; have HO442 := n0_; have HO450 := n1_; have HR455 := n2_; have HB := n3_; clear n0_ n1_ n2_ n3_; (try clear hb); (try clear hb2); (try clear hk); (try clear hi); obtain ⟨Ao27, co27, eo27⟩ := Kd.R_slice HO450.out; subst eo27) | (go_at_call 10; (with_reducible refine (impl_ExprValid.calls k _ _ y448 t457 _ ?side1 ?side2 (zz22_3_ HTAB.out HB.out) A16.out).mono ?_); (case side1 => repeat (first | exact (Kd.R_reads' HO450.out).2.2 | (with_reducible refine Kd.C_alloc ?_ _) | (with_reducible refine Kd.C_drewN ?_ _) | (with_reducible refine Kd.C_drew ?_))); (case side2 => exact (Kd.R_reads' HO450.out).2.1); rintro e w28 ⟨rfl, hb⟩; have n0_ := Aside0.mk (Kd.Q_below (zz22_5_ HO442.out) hb); have n1_ := Aside0.mk (Kd.R_below (zz22_6_ HO450.out) hb); have n2_ := Aside0.mk (Kd.C_below (zz22_8_ HR455.out) hb); have n3_ := Aside0.mk (below_step (zz22_2_ HB.out) hb); clear HO442; clear HO450; clear HR455; clear HB; have HO442 := n0_; have HO450 := n1_; have HR455 := n2_; have HB := n3_; clear n0_ n1_ n2_ n3_; (try clear hb); (try clear hb2); (try clear hk); (try clear hi)))
         go_ret
         exact ⟨by first | rfl | (simp [errW_none, errW_some] <;> rfl) | (simp only [← hji11]; first | rfl | (simp [errW_none, errW_some] <;> rfl)) | (simp [*, errW_none, errW_some] <;> rfl), zz22_2_ HB.out⟩
       ·rw [if_neg c13] at H
        exact absurd H (by simp)
      ·rw [if_neg c12] at H
       exact absurd H (by simp)
     ·rw [if_neg c9] at H
      have c9b0 : decide ((t440.length : Int) < 60) = false := decide_eq_false c9
      have c9b1 : decide (t440.length < 60) = false := decide_eq_false (by omega)
      clear c9
      obtain ⟨ji29, hji29⟩ : ∃ j_ : Int, (wrap64 ((t440.length : Int) - 1)) = j_ := ⟨_, rfl⟩
      replace H : (if 0 ≤ (ji29) then (if (ji29) ≤ (t440.length : Int) then ((impl_ExprValid.f k (t440.take ((ji29) : Int).toNat)).bind fun t462 => (if t462 = true then (none) else ((impl_ExprValid.f k y448).bind fun t463 => (some (t463 == false))))) else (none)) else (none)) = some r := by first | (rw [hji29] at H; exact H) | (simp only [hji29] at H ⊢; exact H)
      (try rw [hji29] at A3)
      (try rw [hji29] at A4)
      (try rw [hji29] at A5)
      have hji29w : (IntKind.i64.wrap ((t440.length : Int) - 1)) = ji29 := (i64_w _).trans hji29
      by_cases c30 : 0 ≤ (ji29)
      ·rw [if_pos c30] at H
       have c30b0 := eq_true c30
       have c30b1 : decide (0 ≤ (ji29)) = true := decide_eq_true c30
       clear c30
       by_cases c31 : (ji29) ≤ (t440.length : Int)
       ·rw [if_pos c31] at H
        have c31b0 := eq_true c31
        have c31b1 : decide ((ji29) ≤ (t440.length : Int)) = true := decide_eq_true c31
        clear c31
        obtain ⟨y458, hy458⟩ : ∃ y_ : List (S35), y_ = (t440.take ((ji29) : Int).toNat) := ⟨_, rfl⟩
        replace H : ((impl_ExprValid.f k y458).bind fun t462 => (if t462 = true then (none) else ((impl_ExprValid.f k y448).bind fun t463 => (some (t463 == false))))) = some r := by first | (rw [hy458]; with_reducible exact H) | (have H2_ := (Option.bind_some _ _).symm.trans H; rw [hy458]; with_reducible exact H2_) | (have H2_ := (Option.bind_some _ _).symm.trans H; with_reducible exact H2_) | with_reducible exact H | (rw [hy458]; exact H) | exact H
        have Ny458 := Aside0.mk hy458
        clear hy458
        replace H := Option.bind_eq_some_iff.mp H
        obtain ⟨t462, A320, H⟩ := H
        try dsimp only at H
        have A32 := Aside0.mk A320
        clear A320
        by_cases c33 : t462 = true
        ·subst c33
         rw [if_pos rfl] at H
         exact absurd H (by simp)
        ·replace c33 := Bool.eq_false_iff.mpr c33
         subst c33
         rw [if_neg (show ¬ (false = true) by decide)] at H
         replace H := Option.bind_eq_some_iff.mp H
         obtain ⟨t463, A340, H⟩ := H
         try dsimp only at H
         have A34 := Aside0.mk A340
         clear A340
         obtain rfl := Option.some.inj H
         go_enter Tryz.func5, Tryz.ntmps5
         go_wp2_with (first | ((with_reducible refine gate_callee (f := 15) rfl ?_); refine goesL_ (some 11) rfl rfl Tryz.func15 (by kernel_rfl) rfl #[.slice A0 l0.length c0] rfl (zz22_0_) ?_; (with_reducible refine (spec_DrawExprValid.calls k _ _ l0 t440 _ ?side1 ?side2 A3.out).mono ?_); (case side1 => exact zz22_1_ HR0.out); (case side2 => exact HC0.out); rintro e w35 ⟨v441, rfl, ho0, hb⟩; refine ⟨_, rfl, ?_⟩; have n0_ := Aside0.mk (Kd.Q_lower ho0 (below_size (zz22_2_ HB.out))); have n1_ := Aside0.mk (below_step (zz22_2_ HB.out) hb); clear HB; have HO442 := n0_; have HB := n1_; clear n0_ n1_; (try clear hb); (try clear hb2); (try clear hk); (try clear hi); (try clear ho0); obtain ⟨Ao36, co36, eo36, _⟩ := Kd.Q_slice HO442.out; subst eo36) | ((with_reducible refine gate_callee (f := 10) rfl ?_); refine goesL_ (some 13) rfl rfl Tryz.func10 (by kernel_rfl) rfl #[.slice Ao36 t440.length co36] rfl (zz22_0_) ?_; (with_reducible refine (impl_ExprValid.calls k _ _ t440 true _ ?side1 ?side2 (zz22_3_ HTAB.out HB.out) A4.out).mono ?_); (case side1 => exact zz22_4_ HO442.out); (case side2 => exact (Kd.Q_reads' HO442.out).2.1); rintro e w37 ⟨rfl, hb⟩; refine ⟨_, rfl, ?_⟩; have n0_ := Aside0.mk (Kd.Q_below (zz22_5_ HO442.out) hb); have n1_ := Aside0.mk (below_step (zz22_2_ HB.out) hb); clear HO442; clear HB; have HO442 := n0_; have HB := n1_; clear n0_ n1_; (try clear hb); (try clear hb2); (try clear hk); (try clear hi)) | ((with_reducible refine gate_callee (f := 16) rfl ?_); refine goesL_ (some 16) rfl rfl Tryz.func16 (by kernel_rfl) rfl #[.slice Ao36 t440.length co36] rfl (zz22_0_) ?_; (with_reducible refine (spec_ExprValid.calls k _ _ t440 t444 _ ?side1 ?side2 A5.out).mono ?_); (case side1 => exact zz22_4_ HO442.out); (case side2 => exact (Kd.Q_reads' HO442.out).2.1); rintro e w38 ⟨rfl, hb⟩; refine ⟨_, rfl, ?_⟩; have n0_ := Aside0.mk (Kd.Q_below (zz22_5_ HO442.out) hb); have n1_ := Aside0.mk (below_step (zz22_2_ HB.out) hb); clear HO442; clear HB; have HO442 := n0_; have HB := n1_; clear n0_ n1_; (try clear hb); (try clear hb2); (try clear hk); (try clear hi)) | ((with_reducible refine gate_dst (N := 22) rfl ?_); refine Kd.R_lit k35 _ 35 ?hg (N := 22) ?hd (xs := ([(⟨7, (⟨#[33]⟩ : ByteArray), 1⟩ : S35)] : List (S35))) (inner := [.int .i64 7, .string (⟨#[33]⟩ : ByteArray), .int .i64 1]) (ok := fun _ => True) (okp := fun _ => True) ?hr ?hp (fun _ hk => hk) trivial (Below.refl _ _) (Nat.le_refl _) (by simp) ?_; (case hd => rfl); (case hg => rfl); (case hr => first | (go_simp; done) | (go_simp; rfl)); (case hp => exact (Reps.c3 (show Kd.M k35 _ _ _ (⟨7, (⟨#[33]⟩ : ByteArray), 1⟩ : S35) [.int .i64 7, .string (⟨#[33]⟩ : ByteArray), .int .i64 1] from (k35_mkM _ _ _ (⟨7, (⟨#[33]⟩ : ByteArray), 1⟩ : S35) )) (Reps.none _ _))); intro v446 w39 ho40 hb hg_ hnew_; clear hg_ hnew_; (first | rw [← Ny445.out] at ho40 | (simp only [Int.reduceToNat] at ho40; rw [← Ny445.out] at ho40)); have n0_ := Aside0.mk (Kd.Q_elder' (zz22_5_ HO442.out) (Kd.R_base ho40) hb); have n1_ := Aside0.mk (Kd.R_lower (Kd.R_new' ho40 (Kd.Q_lt (zz22_5_ HO442.out))) (below_size (zz22_2_ HB.out))); have n2_ := Aside0.mk (below_step (zz22_2_ HB.out) hb); clear HO442; clear HB; have HO442 := n0_; have HO447 := n1_; have HB := n2_; clear n0_ n1_ n2_; clear hb ho40) | ((with_reducible refine gate_builtin (b := .append) (xs := #[.tmp 22, .tmp 23]) rfl ?_); at_builtin; refine Kd.R_append_rows k35 (w0 := w) w.heap.size rfl (.tmp 22) (.tmp 23) 23 35 (.agg #[(.int .i64 0), (.string ⟨#[]⟩), (.int .i64 0)]) 32 rfl Tryz.underlying23 info35 rfl (by decide) (by omega) v446 y445 t440 _ _ _ (fun k_ => some k_ ≠ (.slice Ao36 t440.length co36 : Value).ownBlock) (fun _ => False) rfl rfl ?aO ?aR (fun _ _ h => h) (fun _ h => h.elim) ?aF ?aB ?aS ?aL ?_; (case aR => exact zz22_4_ HO442.out); (case aB => exact (zz22_2_ HB.out)); (case aF => exact (fun k_ hk => Kd.fresh' (Kd.Q_lt (zz22_5_ HO442.out)) k_ hk)); (case aO => exact (by (with_reducible repeat (first | apply Kd.R_alloc | apply Kd.R_drewN | apply Kd.R_drew)); exact Kd.R_mono HO447.out (fun _ hk => hk.2))); (case aS => exact (below_size (zz22_2_ HB.out))); (case aL => have := LMc8.out; omega); intro v449 w41 ho hb hg hat; rw [← Ny448.out] at ho; have n0_ := Aside0.mk (Kd.Q_after (ok := (fun _ => True)) (zz22_5_ HO442.out) hg hat); have n1_ := Aside0.mk (hb); have n2_ := Aside0.mk (ho); clear HO442; clear HB; clear HO447; have HO442 := n0_; have HB := n1_; have HO450 := n2_; clear n0_ n1_ n2_; clear ho hb hg hat; have q42 : ((ji29) : Int) ≤ ((t440.length : Int) : Int) := of_decide_eq_true (by first | (with_reducible assumption) | assumption); obtain ⟨i042, hi042, _, hsz42, _⟩ := info_parts info35; have hroom42 : t440.length ≤ co36 := (Kd.Q_reads' HO442.out).2.1; have hC42 : Kd.C k35 _ Ao36 t440.length t440 := (Kd.Q_reads' HO442.out).2.2; have hcut42 := cut_to (P := Tryz.prog) 23 35 .i64 Tryz.underlying23 hi042 Ao36 t440.length co36 (ji29) (of_decide_eq_true (by first | (with_reducible assumption) | assumption)) q42 hroom42; have hr42 := Kd.C_take (m := ((ji29) : Int).toNat) hC42 (by omega); have hy42 : y458.length = ((ji29) : Int).toNat := (by rw [Ny458.out, List.length_take]; omega); rw [← Ny458.out] at hr42; rw [← hy42] at hcut42; have HR461 := Aside0.mk hr42; have HC461 := Aside0.mk (show y458.length ≤ co36 from by omega); clear hr42 hC42 hroom42 hi042 hsz42; have KY42 := Aside0.mk hy42; clear hy42; have KL42 := Aside0.mk (show ((ji29) : Int).toNat ≤ t440.length from by omega); replace q42 := eq_true q42) | ((with_reducible refine gate_callee (f := 10) rfl ?_); refine goesL_ (some 38) rfl rfl Tryz.func10 (by kernel_rfl) rfl #[.slice Ao36 y458.length co36] rfl (zz22_0_) ?_; (with_reducible refine (impl_ExprValid.calls k _ _ y458 false _ ?side1 ?side2 (zz22_3_ HTAB.out HB.out) A32.out).mono ?_); (case side1 => exact zz22_7_ HR461.out); (case side2 => exact HC461.out); rintro e w43 ⟨rfl, hb⟩; refine ⟨_, rfl, ?_⟩; have n0_ := Aside0.mk (Kd.Q_below (zz22_5_ HO442.out) hb); have n1_ := Aside0.mk (Kd.R_below (zz22_6_ HO450.out) hb); have n2_ := Aside0.mk (Kd.C_below (zz22_8_ HR461.out) hb); have n3_ := Aside0.mk (below_step (zz22_2_ HB.out) hb); clear HO442; clear HO450; clear HR461; clear HB; have HO442 := n0_; have HO450 := n1_; have HR461 := n2_; have HB := n3_; clear n0_ n1_ n2_ n3_; (try clear hb); (try clear hb2); (try clear hk); (try clear hi); obtain ⟨Ao44, co44, eo44⟩ := Kd.R_slice HO450.out; subst eo44) | (go_at_call 10; (with_reducible refine (impl_ExprValid.calls k _ _ y448 t463 _ ?side1 ?side2 (zz22_3_ HTAB.out HB.out) A34.out).mono ?_); (case side1 => repeat (first | exact (Kd.R_reads' HO450.out).2.2 | (with_reducible refine Kd.C_alloc ?_ _) | (with_reducible refine Kd.C_drewN ?_ _) | (with_reducible refine Kd.C_drew ?_))); (case side2 => exact (Kd.R_reads' HO450.out).2.1); rintro e w45 ⟨rfl, hb⟩; have n0_ := Aside0.mk (Kd.Q_below (zz22_5_ HO442.out) hb); have n1_ := Aside0.mk (Kd.R_below (zz22_6_ HO450.out) hb); have n2_ := Aside0.mk (Kd.C_below (zz22_8_ HR461.out) hb); have n3_ := Aside0.mk (below_step (zz22_2_ HB.out) hb); clear HO442; clear HO450; clear HR461; clear HB; have HO442 := n0_; have HO450 := n1_; have HR461 := n2_; have HB := n3_; clear n0_ n1_ n2_ n3_; (try clear hb); (try clear hb2); (try clear hk); (try clear hi)))
         go_ret
         exact ⟨by first | rfl | (simp [errW_none, errW_some] <;> rfl) | (simp only [← hji29]; first | rfl | (simp [errW_none, errW_some] <;> rfl)) | (simp [*, errW_none, errW_some] <;> rfl), zz22_2_ HB.out⟩
       ·rw [if_neg c31] at H
        exact absurd H (by simp)
      ·rw [if_neg c30] at H
       exact absurd H (by simp)
    ·rw [if_neg c8] at H
     exact absurd H (by simp)
   ·replace c7 := Bool.eq_false_iff.mpr c7
    subst c7
    rw [if_neg (show ¬ (false = true) by decide)] at H
    replace H := Option.bind_eq_some_iff.mp H
    obtain ⟨t464, A460, H⟩ := H
    try dsimp only at H
    have A46 := Aside0.mk A460
    clear A460
    obtain rfl := Option.some.inj H
    go_enter Tryz.func5, Tryz.ntmps5
    go_wp2_with (first | ((with_reducible refine gate_callee (f := 15) rfl ?_); refine goesL_ (some 11) rfl rfl Tryz.func15 (by kernel_rfl) rfl #[.slice A0 l0.length c0] rfl (zz22_0_) ?_; (with_reducible refine (spec_DrawExprValid.calls k _ _ l0 t440 _ ?side1 ?side2 A3.out).mono ?_); (case side1 => exact zz22_1_ HR0.out); (case side2 => exact HC0.out); rintro e w47 ⟨v441, rfl, ho0, hb⟩; refine ⟨_, rfl, ?_⟩; have n0_ := Aside0.mk (Kd.Q_lower ho0 (below_size (zz22_2_ HB.out))); have n1_ := Aside0.mk (below_step (zz22_2_ HB.out) hb); clear HB; have HO442 := n0_; have HB := n1_; clear n0_ n1_; (try clear hb); (try clear hb2); (try clear hk); (try clear hi); (try clear ho0); obtain ⟨Ao48, co48, eo48, _⟩ := Kd.Q_slice HO442.out; subst eo48) | ((with_reducible refine gate_callee (f := 10) rfl ?_); refine goesL_ (some 13) rfl rfl Tryz.func10 (by kernel_rfl) rfl #[.slice Ao48 t440.length co48] rfl (zz22_0_) ?_; (with_reducible refine (impl_ExprValid.calls k _ _ t440 false _ ?side1 ?side2 (zz22_3_ HTAB.out HB.out) A4.out).mono ?_); (case side1 => exact zz22_4_ HO442.out); (case side2 => exact (Kd.Q_reads' HO442.out).2.1); rintro e w49 ⟨rfl, hb⟩; refine ⟨_, rfl, ?_⟩; have n0_ := Aside0.mk (Kd.Q_below (zz22_5_ HO442.out) hb); have n1_ := Aside0.mk (below_step (zz22_2_ HB.out) hb); clear HO442; clear HB; have HO442 := n0_; have HB := n1_; clear n0_ n1_; (try clear hb); (try clear hb2); (try clear hk); (try clear hi)) | ((with_reducible refine gate_callee (f := 16) rfl ?_); refine goesL_ (some 16) rfl rfl Tryz.func16 (by kernel_rfl) rfl #[.slice Ao48 t440.length co48] rfl (zz22_0_) ?_; (with_reducible refine (spec_ExprValid.calls k _ _ t440 t444 _ ?side1 ?side2 A5.out).mono ?_); (case side1 => exact zz22_4_ HO442.out); (case side2 => exact (Kd.Q_reads' HO442.out).2.1); rintro e w50 ⟨rfl, hb⟩; refine ⟨_, rfl, ?_⟩; have n0_ := Aside0.mk (Kd.Q_below (zz22_5_ HO442.out) hb); have n1_ := Aside0.mk (below_step (zz22_2_ HB.out) hb); clear HO442; clear HB; have HO442 := n0_; have HB := n1_; clear n0_ n1_; (try clear hb); (try clear hb2); (try clear hk); (try clear hi)) | ((with_reducible refine gate_callee (f := 9) rfl ?_); refine goesL_ (some 20) rfl rfl Tryz.func9 (by kernel_rfl) rfl #[] rfl (zz22_0_) ?_; (with_reducible refine (laws_alive.calls k  t464 _ A46.out).mono ?_); rintro e w' ⟨rfl, ⟨nd, rfl⟩⟩; refine ⟨_, rfl, ?_⟩))
    go_ret
    exact ⟨by first | rfl | (simp [errW_none, errW_some] <;> rfl) | (simp [*, errW_none, errW_some] <;> rfl), zz22_2_ HB.out⟩

/-- THE ONE PURE STATEMENT of laws_FnExprValid: yours. -/
def laws_FnExprValid.Pure : Prop := ∀ (l0 : List Int), l0.length ≤ maxLen → l0.length * 1 ≤ 140737488351232 → (∀ x ∈ l0, (Lit.int .u8 x).wf = true) → ∃ k, laws_FnExprValid.f k l0 = some true
theorem laws_FnExprValid.walk (P : laws_FnExprValid.Pure) (a0 : Option Addr) (len0 cap0 : Nat) (z0 : List Int) (w : World) (w0 : (a0 = none ∧ len0 = 0 ∧ cap0 = 0 ∧ z0 = []) ∨ ∃ x, a0 = some x ∧ len0 ≤ cap0 ∧ cap0 ≤ maxLen ∧ z0.length = cap0 ∧ (∀ i, i < z0.length → w.cell? (x.add i) = some (.int .u8 (z0.getD i 0))) ∧ ∀ n ∈ z0, (Lit.int .u8 n).wf = true) (y0 : len0 * 1 ≤ 140737488351232) (htab : Tab10 w) :
  Calls Tryz.prog 5 #[.slice a0 len0 cap0] w fun e w' => e = .returned (.bool true) ∧ Below w.heap.size w w' := by
 obtain ⟨l0, rfl, hr0, hm0, hw0, hc0⟩ := ReadsInt.ofRowC w0
 obtain ⟨k, h⟩ := P l0 hm0 y0 hw0
 refine (laws_FnExprValid.calls k _ _ l0 true w (Kd.C_of_reads (d := (0 : Int)) (h1 := fun _ => rfl) hr0) hc0 htab h).mono ?_
 rintro e w' ⟨rfl, hd⟩
 exact ⟨rfl, hd⟩

end Go.Proofs.YtifeiepociopoaaGreatDoor.PEv
