-- Written for this session by its program hprint.py over the kit's print: functions, and contracts that the walk of the Go code proves.
import Derived.Test.YtifeiepociopoaaDoorPFracx0
import Derived.Test.YtifeiepociopoaaDoorPFracx6
namespace Go.Proofs.YtifeiepociopoaaDoor.PFrac
open Go.RowKit Go.Proofs.YtifeiepociopoaaDoor.Hand Go.Proofs.YtifeiepociopoaaDoorW.PrintWords Go.Proofs.YtifeiepociopoaaDoorW.PrintLast Go.Proofs.YtifeiepociopoaaDoorW.PrintMore
attribute [local go_sem] max2_int min2_int max_two min_two max_three min_three max_four min_four   -- for this text's walks alone
set_option linter.unusedVariables false
set_option linter.unusedSimpArgs false

/-! ### spec_l20Decimal: function 41 -/
theorem zz16_1_ {P1 Q : Prop} (h1 : P1) (f : P1 → Q := by intro zq1_; repeat (first | (with_reducible first | exact zq1_ | apply IsS71.alloc | apply IsS71.drewN | apply IsS71.drew | apply IsS71.set_1) | exact zq1_)) : Q := f h1
theorem zz16_2_ {P1 P2 Q : Prop} (h1 : P1) (h2 : P2) (f : P1 → P2 → Q := by intro zq1_ zq2_; repeat (first | (with_reducible first | exact zq1_ | apply below_alloc | apply pw_below_drewN | apply below_drew1 | refine below_set ?_ (IsS71.ge zq2_)) | exact zq1_)) : Q := f h1 h2
theorem zz16_0_ {P1 Q : Prop} (h1 : P1) (f : P1 → Q := by intro zq1_; repeat (first | (with_reducible first | exact zq1_ | apply KeepBut.set_ | apply keep_drewN | apply keep_drew | apply keep_alloc) | exact zq1_)) : Q := f h1
theorem zz16_3_ {P1 Q : Prop} (h1 : P1) (f : P1 → Q := by intro zq1_; (with_reducible repeat (first | apply Kd.R_alloc | apply Kd.R_drewN | apply Kd.R_drew)); exact zq1_) : Q := f h1
def spec_l20Decimal.f (k : Nat) (s0_0 : List Int) (s0_1 : Int) : Option (ByteArray × Int) := (spec_l20Rd_pick.f k s0_0 s0_1 10).bind fun bt273 => ((spec_l20Rd_pick.f k s0_0 bt273.2 10).bind fun bt275 => ((some (([(wrap64 (48 + bt273.1)) % 256, (wrap64 (48 + bt275.1)) % 256] : List Int) : List Int)).bind fun y277 => (if 0 ≤ 1 then (if 1 ≤ ((strOfNums y277).size : Int) then (if (strOfNums y277).size + 1 ≤ 9223372036854775807 then (if ((strOfNums y277) ++ (⟨#[46]⟩ : ByteArray)).size + (strOfNums y277).size ≤ 9223372036854775807 then (if ((strOfNums y277) ++ (⟨#[46]⟩ : ByteArray)).size + ((strOfNums y277).extract 1 (strOfNums y277).size).size ≤ 9223372036854775807 then (if (((strOfNums y277) ++ (⟨#[46]⟩ : ByteArray)) ++ ((strOfNums y277).extract 1 (strOfNums y277).size)).size + 1 ≤ 9223372036854775807 then (if 2 + (strOfNums y277).size ≤ 9223372036854775807 then (if 3 + (strOfNums y277).size ≤ 9223372036854775807 then (if 1 + (strOfNums y277).size ≤ 9223372036854775807 then (if (strOfNums y277).size + 8 ≤ 9223372036854775807 then ((some (([strOfNums y277, (strOfNums y277).extract 0 1, ((strOfNums y277) ++ (⟨#[46]⟩ : ByteArray)) ++ (strOfNums y277), (((strOfNums y277) ++ (⟨#[46]⟩ : ByteArray)) ++ ((strOfNums y277).extract 1 (strOfNums y277).size)) ++ (⟨#[48]⟩ : ByteArray), (⟨#[48, 46]⟩ : ByteArray) ++ (strOfNums y277), (⟨#[48, 48, 48]⟩ : ByteArray) ++ (strOfNums y277), (strOfNums y277) ++ (⟨#[46]⟩ : ByteArray), (⟨#[46]⟩ : ByteArray) ++ (strOfNums y277), (⟨#[]⟩ : ByteArray), (strOfNums y277) ++ (⟨#[46, 49, 50, 51, 52, 53, 54, 55]⟩ : ByteArray), (⟨#[49, 50, 51, 52, 53, 54, 55, 56, 57, 48]⟩ : ByteArray), (⟨#[57, 57, 57, 57, 57, 57, 57, 57, 57, 46, 57]⟩ : ByteArray), (strOfNums y277) ++ (⟨#[97]⟩ : ByteArray), (⟨#[49, 46, 50, 46, 51]⟩ : ByteArray)] : List ByteArray) : List ByteArray)).bind fun y280 => ((spec_l20Rd_pick.f k s0_0 bt275.2 14).bind fun bt283 => (if 0 ≤ bt283.1 then (if bt283.1 < (y280.length : Int) then (some (rdOf ByteArray.empty y280 bt283.1, bt283.2)) else (none)) else (none)))) else (none)) else (none)) else (none)) else (none)) else (none)) else (none)) else (none)) else (none)) else (none)) else (none))))
theorem spec_l20Decimal.mono : ∀ a0 a1 k, LeO (spec_l20Decimal.f k a0 a1) (spec_l20Decimal.f (k + 1) a0 a1) := by
 intro a0 a1 k
 unfold spec_l20Decimal.f
 repeat' first
   | (with_reducible exact spec_l20Rd_pick.mono _ _ _ _)
   | (with_reducible exact LeO.refl _)
   | (with_reducible exact LeO.none _)
   | (with_reducible refine LeO.ite ?_ ?_)
   | (with_reducible refine LeO.bind ?_ (fun _ => ?_))
   | exact spec_l20Rd_pick.mono _ _ _ _
   | exact LeO.none _
   | refine LeO.ite ?_ ?_
   | refine LeO.bind ?_ (fun _ => ?_)
def spec_l20Decimal.T2 : Bool × List (List Nat × List Nat) := (true, [([], []), ([], []), ([1], [1]), ([], []), ([3], [3]), ([], []), ([4, 5], [4, 5]), ([], []), ([7], [7]), ([], []), ([9], [9]), ([8, 10], [8, 10]), ([11], [11]), ([], []), ([13], [13]), ([], []), ([15], [15]), ([], []), ([17], [17]), ([], []), ([19], [19]), ([], []), ([21], [21]), ([], []), ([23], [23]), ([0, 2, 6, 12, 14, 16, 18, 20, 22, 24], [0, 2, 6, 12, 14, 16, 18, 20, 22, 24]), ([], []), ([26], [26]), ([25, 27], [25, 27]), ([28], [28]), ([29, 27, 0, 1, 2, 3, 4, 5, 6, 7, 8, 9, 10, 11, 12, 13, 14, 15, 16, 17, 18, 19, 20, 21, 22, 23, 24, 25, 26, 27, 28, 29], [29])])
def spec_l20Decimal.B2 : List Nat := [0, 0, 2, 0, 8, 0, 56, 0, 128, 0, 512, 1920, 3968, 0, 8192, 0, 32768, 0, 131072, 0, 524288, 0, 2097152, 0, 8388608, 33554431, 0, 67108864, 268435455, 536870911, 1073741823]
theorem spec_l20Decimal.tab2 : rtab .any (opsOf Tryd.f41 2) = spec_l20Decimal.T2 := by kernel_rfl
theorem spec_l20Decimal.bits2 : waitsOk spec_l20Decimal.T2.2 spec_l20Decimal.B2 = true := by kernel_rfl
set_option maxHeartbeats 8000000 in
set_option maxRecDepth 100000 in
theorem spec_l20Decimal.calls (k : Nat) (g : Nat) (s0_0 : List Int) (s0_1 : Int) (r1 : ByteArray) (r2 : Int) (w0 w : World) (hI : IsS71 w0 w g s0_0 s0_1) (hB : Below w0.heap.size w0 w) (h : spec_l20Decimal.f k s0_0 s0_1 = some (r1, r2)) :
  Calls Tryd.prog 41 #[.pointer (some ⟨g, 0, none⟩)] w fun e w' => e = .returned (.string r1) ∧ IsS71 w0 w' g s0_0 r2 ∧ Below w0.heap.size w0 w' ∧ KeepBut w w' g none := by
 have HI0 := Aside0.mk hI
 have HK := Aside0.mk (KeepBut.refl w g none)
 have HL := Aside0.mk hB.size
 clear hI
 have HW0 := Aside0.mk hB.size
 have HB := Aside0.mk hB
 clear hB
 have H : ((spec_l20Rd_pick.f k s0_0 s0_1 10).bind fun bt273 => ((spec_l20Rd_pick.f k s0_0 bt273.2 10).bind fun bt275 => ((some (([(wrap64 (48 + bt273.1)) % 256, (wrap64 (48 + bt275.1)) % 256] : List Int) : List Int)).bind fun y277 => (if 0 ≤ 1 then (if 1 ≤ ((strOfNums y277).size : Int) then (if (strOfNums y277).size + 1 ≤ 9223372036854775807 then (if ((strOfNums y277) ++ (⟨#[46]⟩ : ByteArray)).size + (strOfNums y277).size ≤ 9223372036854775807 then (if ((strOfNums y277) ++ (⟨#[46]⟩ : ByteArray)).size + ((strOfNums y277).extract 1 (strOfNums y277).size).size ≤ 9223372036854775807 then (if (((strOfNums y277) ++ (⟨#[46]⟩ : ByteArray)) ++ ((strOfNums y277).extract 1 (strOfNums y277).size)).size + 1 ≤ 9223372036854775807 then (if 2 + (strOfNums y277).size ≤ 9223372036854775807 then (if 3 + (strOfNums y277).size ≤ 9223372036854775807 then (if 1 + (strOfNums y277).size ≤ 9223372036854775807 then (if (strOfNums y277).size + 8 ≤ 9223372036854775807 then ((some (([strOfNums y277, (strOfNums y277).extract 0 1, ((strOfNums y277) ++ (⟨#[46]⟩ : ByteArray)) ++ (strOfNums y277), (((strOfNums y277) ++ (⟨#[46]⟩ : ByteArray)) ++ ((strOfNums y277).extract 1 (strOfNums y277).size)) ++ (⟨#[48]⟩ : ByteArray), (⟨#[48, 46]⟩ : ByteArray) ++ (strOfNums y277), (⟨#[48, 48, 48]⟩ : ByteArray) ++ (strOfNums y277), (strOfNums y277) ++ (⟨#[46]⟩ : ByteArray), (⟨#[46]⟩ : ByteArray) ++ (strOfNums y277), (⟨#[]⟩ : ByteArray), (strOfNums y277) ++ (⟨#[46, 49, 50, 51, 52, 53, 54, 55]⟩ : ByteArray), (⟨#[49, 50, 51, 52, 53, 54, 55, 56, 57, 48]⟩ : ByteArray), (⟨#[57, 57, 57, 57, 57, 57, 57, 57, 57, 46, 57]⟩ : ByteArray), (strOfNums y277) ++ (⟨#[97]⟩ : ByteArray), (⟨#[49, 46, 50, 46, 51]⟩ : ByteArray)] : List ByteArray) : List ByteArray)).bind fun y280 => ((spec_l20Rd_pick.f k s0_0 bt275.2 14).bind fun bt283 => (if 0 ≤ bt283.1 then (if bt283.1 < (y280.length : Int) then (some (rdOf ByteArray.empty y280 bt283.1, bt283.2)) else (none)) else (none)))) else (none)) else (none)) else (none)) else (none)) else (none)) else (none)) else (none)) else (none)) else (none)) else (none))))) = some (r1, r2) := h
 clear h
 replace H := Option.bind_eq_some_iff.mp H
 obtain ⟨⟨t273, t274⟩, A20, H⟩ := H
 try dsimp only at H
 have A2 := Aside0.mk A20
 clear A20
 replace H := Option.bind_eq_some_iff.mp H
 obtain ⟨⟨t275, t276⟩, A30, H⟩ := H
 try dsimp only at H
 have A3 := Aside0.mk A30
 clear A30
 obtain ⟨y277, hy277⟩ : ∃ y_ : List Int, y_ = (([(wrap64 (48 + t273)) % 256, (wrap64 (48 + t275)) % 256] : List Int)) := ⟨_, rfl⟩
 replace H : (if 0 ≤ 1 then (if 1 ≤ ((strOfNums y277).size : Int) then (if (strOfNums y277).size + 1 ≤ 9223372036854775807 then (if ((strOfNums y277) ++ (⟨#[46]⟩ : ByteArray)).size + (strOfNums y277).size ≤ 9223372036854775807 then (if ((strOfNums y277) ++ (⟨#[46]⟩ : ByteArray)).size + ((strOfNums y277).extract 1 (strOfNums y277).size).size ≤ 9223372036854775807 then (if (((strOfNums y277) ++ (⟨#[46]⟩ : ByteArray)) ++ ((strOfNums y277).extract 1 (strOfNums y277).size)).size + 1 ≤ 9223372036854775807 then (if 2 + (strOfNums y277).size ≤ 9223372036854775807 then (if 3 + (strOfNums y277).size ≤ 9223372036854775807 then (if 1 + (strOfNums y277).size ≤ 9223372036854775807 then (if (strOfNums y277).size + 8 ≤ 9223372036854775807 then ((some (([strOfNums y277, (strOfNums y277).extract 0 1, ((strOfNums y277) ++ (⟨#[46]⟩ : ByteArray)) ++ (strOfNums y277), (((strOfNums y277) ++ (⟨#[46]⟩ : ByteArray)) ++ ((strOfNums y277).extract 1 (strOfNums y277).size)) ++ (⟨#[48]⟩ : ByteArray), (⟨#[48, 46]⟩ : ByteArray) ++ (strOfNums y277), (⟨#[48, 48, 48]⟩ : ByteArray) ++ (strOfNums y277), (strOfNums y277) ++ (⟨#[46]⟩ : ByteArray), (⟨#[46]⟩ : ByteArray) ++ (strOfNums y277), (⟨#[]⟩ : ByteArray), (strOfNums y277) ++ (⟨#[46, 49, 50, 51, 52, 53, 54, 55]⟩ : ByteArray), (⟨#[49, 50, 51, 52, 53, 54, 55, 56, 57, 48]⟩ : ByteArray), (⟨#[57, 57, 57, 57, 57, 57, 57, 57, 57, 46, 57]⟩ : ByteArray), (strOfNums y277) ++ (⟨#[97]⟩ : ByteArray), (⟨#[49, 46, 50, 46, 51]⟩ : ByteArray)] : List ByteArray) : List ByteArray)).bind fun y280 => ((spec_l20Rd_pick.f k s0_0 t276 14).bind fun bt283 => (if 0 ≤ bt283.1 then (if bt283.1 < (y280.length : Int) then (some (rdOf ByteArray.empty y280 bt283.1, bt283.2)) else (none)) else (none)))) else (none)) else (none)) else (none)) else (none)) else (none)) else (none)) else (none)) else (none)) else (none)) else (none)) = some (r1, r2) := by first | (rw [hy277]; with_reducible exact H) | (have H2_ := (Option.bind_some _ _).symm.trans H; rw [hy277]; with_reducible exact H2_) | (have H2_ := (Option.bind_some _ _).symm.trans H; with_reducible exact H2_) | with_reducible exact H | (rw [hy277]; exact H) | exact H
 have Ny277 := Aside0.mk hy277
 clear hy277
 by_cases c4 : 0 ≤ 1
 ·rw [if_pos c4] at H
  have c4b0 := eq_true c4
  have c4b1 : decide (0 ≤ 1) = true := decide_eq_true c4
  clear c4
  by_cases c5 : 1 ≤ ((strOfNums y277).size : Int)
  ·rw [if_pos c5] at H
   have c5b0 := eq_true c5
   have c5b1 : decide (1 ≤ ((strOfNums y277).size : Int)) = true := decide_eq_true c5
   clear c5
   by_cases c6 : (strOfNums y277).size + 1 ≤ 9223372036854775807
   ·rw [if_pos c6] at H
    have c6b0 := eq_true c6
    have c6b1 : decide ((strOfNums y277).size + 1 ≤ 9223372036854775807) = true := decide_eq_true c6
    try have c6b2 : (9223372036854775807 < (strOfNums y277).size + 1) = False := eq_false (Nat.not_lt.2 c6)
    by_cases c7 : ((strOfNums y277) ++ (⟨#[46]⟩ : ByteArray)).size + (strOfNums y277).size ≤ 9223372036854775807
    ·rw [if_pos c7] at H
     have c7b0 := eq_true c7
     have c7b1 : decide (((strOfNums y277) ++ (⟨#[46]⟩ : ByteArray)).size + (strOfNums y277).size ≤ 9223372036854775807) = true := decide_eq_true c7
     try have c7b2 : (9223372036854775807 < ((strOfNums y277) ++ (⟨#[46]⟩ : ByteArray)).size + (strOfNums y277).size) = False := eq_false (Nat.not_lt.2 c7)
     have c7n : (strOfNums y277).size + 1 + (strOfNums y277).size ≤ 9223372036854775807 := by have := c7; simp only [ByteArray.size_append] at this; exact this
     have c7n0 := eq_true c7n
     have c7n1 := decide_eq_true c7n
     have c7n2 : (9223372036854775807 < (strOfNums y277).size + 1 + (strOfNums y277).size) = False := eq_false (Nat.not_lt.2 c7n)
     have c8b0 := eq_true (of_decide_eq_true (by first | (with_reducible assumption) | assumption) : 1 ≤ ((strOfNums y277).size : Int))
     by_cases c9 : ((strOfNums y277) ++ (⟨#[46]⟩ : ByteArray)).size + ((strOfNums y277).extract 1 (strOfNums y277).size).size ≤ 9223372036854775807
     ·rw [if_pos c9] at H
      have c9b0 := eq_true c9
      have c9b1 : decide (((strOfNums y277) ++ (⟨#[46]⟩ : ByteArray)).size + ((strOfNums y277).extract 1 (strOfNums y277).size).size ≤ 9223372036854775807) = true := decide_eq_true c9
      try have c9b2 : (9223372036854775807 < ((strOfNums y277) ++ (⟨#[46]⟩ : ByteArray)).size + ((strOfNums y277).extract 1 (strOfNums y277).size).size) = False := eq_false (Nat.not_lt.2 c9)
      have c9n : (strOfNums y277).size + 1 + ((strOfNums y277).extract 1 (strOfNums y277).size).size ≤ 9223372036854775807 := by have := c9; simp only [ByteArray.size_append] at this; exact this
      have c9n0 := eq_true c9n
      have c9n1 := decide_eq_true c9n
      have c9n2 : (9223372036854775807 < (strOfNums y277).size + 1 + ((strOfNums y277).extract 1 (strOfNums y277).size).size) = False := eq_false (Nat.not_lt.2 c9n)
      have c9m : (strOfNums y277).size + 1 + ((strOfNums y277).size - 1) ≤ 9223372036854775807 := by have := c9n; simp only [ByteArray.size_extract, Nat.min_self] at this; exact this
      have c9m0 := eq_true c9m
      have c9m1 := decide_eq_true c9m
      have c9m2 : (9223372036854775807 < (strOfNums y277).size + 1 + ((strOfNums y277).size - 1)) = False := eq_false (Nat.not_lt.2 c9m)
      by_cases c10 : (((strOfNums y277) ++ (⟨#[46]⟩ : ByteArray)) ++ ((strOfNums y277).extract 1 (strOfNums y277).size)).size + 1 ≤ 9223372036854775807
      ·rw [if_pos c10] at H
       have c10b0 := eq_true c10
       have c10b1 : decide ((((strOfNums y277) ++ (⟨#[46]⟩ : ByteArray)) ++ ((strOfNums y277).extract 1 (strOfNums y277).size)).size + 1 ≤ 9223372036854775807) = true := decide_eq_true c10
       try have c10b2 : (9223372036854775807 < (((strOfNums y277) ++ (⟨#[46]⟩ : ByteArray)) ++ ((strOfNums y277).extract 1 (strOfNums y277).size)).size + 1) = False := eq_false (Nat.not_lt.2 c10)
       have c10n : (strOfNums y277).size + 1 + ((strOfNums y277).extract 1 (strOfNums y277).size).size + 1 ≤ 9223372036854775807 := by have := c10; simp only [ByteArray.size_append] at this; exact this
       have c10n0 := eq_true c10n
       have c10n1 := decide_eq_true c10n
       have c10n2 : (9223372036854775807 < (strOfNums y277).size + 1 + ((strOfNums y277).extract 1 (strOfNums y277).size).size + 1) = False := eq_false (Nat.not_lt.2 c10n)
       have c10m : (strOfNums y277).size + 1 + ((strOfNums y277).size - 1) + 1 ≤ 9223372036854775807 := by have := c10n; simp only [ByteArray.size_extract, Nat.min_self] at this; exact this
       have c10m0 := eq_true c10m
       have c10m1 := decide_eq_true c10m
       have c10m2 : (9223372036854775807 < (strOfNums y277).size + 1 + ((strOfNums y277).size - 1) + 1) = False := eq_false (Nat.not_lt.2 c10m)
       have c10o : (strOfNums y277).size + 1 + ((strOfNums y277).size - 1) ≤ 9223372036854775806 := by omega
       have c10o0 := eq_true c10o
       by_cases c11 : 2 + (strOfNums y277).size ≤ 9223372036854775807
       ·rw [if_pos c11] at H
        have c11b0 := eq_true c11
        have c11b1 : decide (2 + (strOfNums y277).size ≤ 9223372036854775807) = true := decide_eq_true c11
        try have c11b2 : (9223372036854775807 < 2 + (strOfNums y277).size) = False := eq_false (Nat.not_lt.2 c11)
        by_cases c12 : 3 + (strOfNums y277).size ≤ 9223372036854775807
        ·rw [if_pos c12] at H
         have c12b0 := eq_true c12
         have c12b1 : decide (3 + (strOfNums y277).size ≤ 9223372036854775807) = true := decide_eq_true c12
         try have c12b2 : (9223372036854775807 < 3 + (strOfNums y277).size) = False := eq_false (Nat.not_lt.2 c12)
         by_cases c13 : 1 + (strOfNums y277).size ≤ 9223372036854775807
         ·rw [if_pos c13] at H
          have c13b0 := eq_true c13
          have c13b1 : decide (1 + (strOfNums y277).size ≤ 9223372036854775807) = true := decide_eq_true c13
          try have c13b2 : (9223372036854775807 < 1 + (strOfNums y277).size) = False := eq_false (Nat.not_lt.2 c13)
          by_cases c14 : (strOfNums y277).size + 8 ≤ 9223372036854775807
          ·rw [if_pos c14] at H
           have c14b0 := eq_true c14
           have c14b1 : decide ((strOfNums y277).size + 8 ≤ 9223372036854775807) = true := decide_eq_true c14
           try have c14b2 : (9223372036854775807 < (strOfNums y277).size + 8) = False := eq_false (Nat.not_lt.2 c14)
           obtain ⟨y280, hy280⟩ : ∃ y_ : List ByteArray, y_ = (([strOfNums y277, (strOfNums y277).extract 0 1, ((strOfNums y277) ++ (⟨#[46]⟩ : ByteArray)) ++ (strOfNums y277), (((strOfNums y277) ++ (⟨#[46]⟩ : ByteArray)) ++ ((strOfNums y277).extract 1 (strOfNums y277).size)) ++ (⟨#[48]⟩ : ByteArray), (⟨#[48, 46]⟩ : ByteArray) ++ (strOfNums y277), (⟨#[48, 48, 48]⟩ : ByteArray) ++ (strOfNums y277), (strOfNums y277) ++ (⟨#[46]⟩ : ByteArray), (⟨#[46]⟩ : ByteArray) ++ (strOfNums y277), (⟨#[]⟩ : ByteArray), (strOfNums y277) ++ (⟨#[46, 49, 50, 51, 52, 53, 54, 55]⟩ : ByteArray), (⟨#[49, 50, 51, 52, 53, 54, 55, 56, 57, 48]⟩ : ByteArray), (⟨#[57, 57, 57, 57, 57, 57, 57, 57, 57, 46, 57]⟩ : ByteArray), (strOfNums y277) ++ (⟨#[97]⟩ : ByteArray), (⟨#[49, 46, 50, 46, 51]⟩ : ByteArray)] : List ByteArray)) := ⟨_, rfl⟩
           replace H : ((spec_l20Rd_pick.f k s0_0 t276 14).bind fun bt283 => (if 0 ≤ bt283.1 then (if bt283.1 < (y280.length : Int) then (some (rdOf ByteArray.empty y280 bt283.1, bt283.2)) else (none)) else (none))) = some (r1, r2) := by first | (rw [hy280]; with_reducible exact H) | (have H2_ := (Option.bind_some _ _).symm.trans H; rw [hy280]; with_reducible exact H2_) | (have H2_ := (Option.bind_some _ _).symm.trans H; with_reducible exact H2_) | with_reducible exact H | (rw [hy280]; exact H) | exact H
           have Ny280 := Aside0.mk hy280
           clear hy280
           replace H := Option.bind_eq_some_iff.mp H
           obtain ⟨⟨t283, t284⟩, A150, H⟩ := H
           try dsimp only at H
           have A15 := Aside0.mk A150
           clear A150
           by_cases c16 : 0 ≤ t283
           ·rw [if_pos c16] at H
            have c16b0 : decide (0 ≤ t283) = true := decide_eq_true c16
            clear c16
            by_cases c17 : t283 < (y280.length : Int)
            ·rw [if_pos c17] at H
             have c17b0 : decide (t283 < (y280.length : Int)) = true := decide_eq_true c17
             clear c17
             simp only [Option.some.injEq, Prod.mk.injEq] at H
             obtain ⟨rfl, rfl⟩ := H
             go_enter Tryd.func41, Tryd.ntmps41
             try go_wp2_with (first | ((with_reducible refine gate_callee (f := 45) rfl ?_); refine goesL_ (some 5) rfl rfl Tryd.func45 (by kernel_rfl) rfl #[.pointer (some ⟨g, 0, none⟩), .int .i64 10] rfl (by (try simp only [List.map_toArray, List.map_cons, List.map_nil]); first | done | rfl | (simp only [List.length_drop, List.length_take]; rfl)) ?_; (with_reducible refine (spec_l20Rd_pick.calls k g s0_0 s0_1 10 t273 t274 w0 _ ?side1 ?side2 A2.out).mono ?_); (case side1 => exact zz16_1_ HI0.out); (case side2 => exact zz16_2_ HB.out HI0.out); rintro e w18 ⟨rfl, hi, hb, hk⟩; refine ⟨_, rfl, ?_⟩; have n0_ := Aside0.mk (KeepBut.trans (zz16_0_ HK.out) hk (.inl rfl)); have n1_ := Aside0.mk (hb); have n2_ := Aside0.mk (hi); clear HK; clear HB; clear HI0; have HK := n0_; have HB := n1_; have HI0 := n2_; clear n0_ n1_ n2_; (try clear hb); (try clear hb2); (try clear hk); (try clear hi)) | ((with_reducible refine gate_callee (f := 45) rfl ?_); refine goesL_ (some 9) rfl rfl Tryd.func45 (by kernel_rfl) rfl #[.pointer (some ⟨g, 0, none⟩), .int .i64 10] rfl (by (try simp only [List.map_toArray, List.map_cons, List.map_nil]); first | done | rfl | (simp only [List.length_drop, List.length_take]; rfl)) ?_; (with_reducible refine (spec_l20Rd_pick.calls k g s0_0 t274 10 t275 t276 w0 _ ?side1 ?side2 A3.out).mono ?_); (case side1 => exact zz16_1_ HI0.out); (case side2 => exact zz16_2_ HB.out HI0.out); rintro e w19 ⟨rfl, hi, hb, hk⟩; refine ⟨_, rfl, ?_⟩; have n0_ := Aside0.mk (KeepBut.trans (zz16_0_ HK.out) hk (.inl rfl)); have n1_ := Aside0.mk (hb); have n2_ := Aside0.mk (hi); clear HK; clear HB; clear HI0; have HK := n0_; have HB := n1_; have HI0 := n2_; clear n0_ n1_ n2_; (try clear hb); (try clear hb2); (try clear hk); (try clear hi)) | ((with_reducible refine gate_dst (N := 12) rfl ?_); refine Kd.R_lit (Kd.int .u8) _ 5 ?hg (N := 12) ?hd (xs := ([(wrap64 (48 + t273)) % 256, (wrap64 (48 + t275)) % 256] : List Int)) (inner := [.int .u8 ((wrap64 (48 + t273)) % 256), .int .u8 ((wrap64 (48 + t275)) % 256)]) (ok := fun _ => True) (okp := fun _ => True) ?hr ?hp (fun _ hk => hk) trivial (Below.refl _ _) (Nat.le_refl _) (by simp) ?_; (case hd => rfl); (case hg => rfl); (case hr => first | (go_simp; done) | (go_simp; rfl)); (case hp => exact (Reps.one (show Kd.M (Kd.int .u8) _ _ _ ((wrap64 (48 + t273)) % 256) [.int .u8 ((wrap64 (48 + t273)) % 256)] from rfl) (Reps.one (show Kd.M (Kd.int .u8) _ _ _ ((wrap64 (48 + t275)) % 256) [.int .u8 ((wrap64 (48 + t275)) % 256)] from rfl) (Reps.none _ _)))); intro v278 w20 ho21 hb hg_ hnew_; clear hg_ hnew_; (first | rw [← Ny277.out] at ho21 | (simp only [Int.reduceToNat] at ho21; rw [← Ny277.out] at ho21)); have n0_ := Aside0.mk (Kd.R_lower ho21 (keep_size (w := w) (g := g) (row := none) (zz16_0_ HK.out))); have n1_ := Aside0.mk (IsS71.below (zz16_1_ HI0.out) hb); have n2_ := Aside0.mk (KeepBut.trans (zz16_0_ HK.out) (KeepBut.of_below hb g none) (.inl rfl)); have n3_ := Aside0.mk (below_step (zz16_2_ HB.out HI0.out) hb); clear HI0; clear HK; clear HB; have HO279 := n0_; have HI0 := n1_; have HK := n2_; have HB := n3_; clear n0_ n1_ n2_ n3_; clear hb ho21; have hcv22 := own_string (P := Tryd.prog) Tryd.underlying28 Tryd.underlying5 Tryd.underlying9 (Kd.own_of_R HO279.out)))
             have pi285 : (0 ≤ (t283 : Int)) = True := eq_true (of_decide_eq_true (by first | (with_reducible assumption) | assumption))
             have qi285 : (t283 < (y280.length : Int)) = True := eq_true (of_decide_eq_true (by first | (with_reducible assumption) | assumption))
             have n0_ := Aside0.mk (Kd.R_drew HO279.out)
             have n1_ := Aside0.mk (IsS71.drew HI0.out)
             have n2_ := Aside0.mk (keep_drew HK.out)
             have n3_ := Aside0.mk (below_drew1 HB.out)
             clear HO279
             clear HI0
             clear HK
             clear HB
             have HO279 := n0_
             have HI0 := n1_
             have HK := n2_
             have HB := n3_
             clear n0_ n1_ n2_ n3_
             refine start_ (n := 31) (S := fun w' => True) (ds := []) #[false, false, false, false, false, false, false, false, false, false, false, false, false, false, false, false, false, false, false, false, false, false, false, false, false, false, false, false, false, false, false] (by kernel_rfl) rfl rfl trivial (fun hHeld => ?_); refine with_tabW spec_l20Decimal.tab2 spec_l20Decimal.bits2 (fun HT_ HW_ => ?_)
             generalize w20.drew = w23 at HO279 HI0 HK HB hHeld ⊢
             refine pure_ (i := 0) (N := some 14) (v := ?_) (a' := ?_) #[true, false, false, false, false, false, false, false, false, false, false, false, false, false, false, false, false, false, false, false, false, false, false, false, false, false, false, false, false, false, false] rfl rfl (any_of HT_.out (by kernel_rfl)) (fun _ _ _ h => h) (Or.inl ⟨by rfl, ?_⟩) ?_ ?_
             rotate_left
             ·intro w'
              go_simp
              with_reducible rfl
             rotate_left
             ·simp only [Act.put, List.setIfInBounds_toArray, List.set_cons_zero, List.set_cons_succ, i64_w, i32_w]
              rfl
             refine pure_ (i := 1) (N := some 15) (v := ?_) (a' := ?_) #[true, true, false, false, false, false, false, false, false, false, false, false, false, false, false, false, false, false, false, false, false, false, false, false, false, false, false, false, false, false, false] rfl rfl (any_of HT_.out (by kernel_rfl)) (fun _ _ _ h => h) (Or.inl ⟨by rfl, ?_⟩) ?_ ?_
             rotate_left
             ·intro w'
              go_simp
              with_reducible rfl
             rotate_left
             ·simp only [Act.put, List.setIfInBounds_toArray, List.set_cons_zero, List.set_cons_succ, i64_w, i32_w]
              rfl
             refine pure_ (i := 3) (N := some 17) (v := ?_) (a' := ?_) #[true, true, false, true, false, false, false, false, false, false, false, false, false, false, false, false, false, false, false, false, false, false, false, false, false, false, false, false, false, false, false] rfl rfl (any_of HT_.out (by kernel_rfl)) (fun _ _ _ h => h) (Or.inl ⟨by rfl, ?_⟩) ?_ ?_
             rotate_left
             ·intro w'
              go_simp
              with_reducible rfl
             rotate_left
             ·simp only [Act.put, List.setIfInBounds_toArray, List.set_cons_zero, List.set_cons_succ, i64_w, i32_w]
              rfl
             refine pure_ (i := 5) (N := some 19) (v := ?_) (a' := ?_) #[true, true, false, true, false, true, false, false, false, false, false, false, false, false, false, false, false, false, false, false, false, false, false, false, false, false, false, false, false, false, false] rfl rfl (any_of HT_.out (by kernel_rfl)) (fun _ _ _ h => h) (Or.inl ⟨by rfl, ?_⟩) ?_ ?_
             rotate_left
             ·intro w'
              go_simp
              with_reducible rfl
             rotate_left
             ·simp only [Act.put, List.setIfInBounds_toArray, List.set_cons_zero, List.set_cons_succ, i64_w, i32_w]
              rfl
             refine pure_ (i := 7) (N := some 21) (v := ?_) (a' := ?_) #[true, true, false, true, false, true, false, true, false, false, false, false, false, false, false, false, false, false, false, false, false, false, false, false, false, false, false, false, false, false, false] rfl rfl (any_of HT_.out (by kernel_rfl)) (fun _ _ _ h => h) (Or.inl ⟨by rfl, ?_⟩) ?_ ?_
             rotate_left
             ·intro w'
              go_simp
              with_reducible rfl
             rotate_left
             ·simp only [Act.put, List.setIfInBounds_toArray, List.set_cons_zero, List.set_cons_succ, i64_w, i32_w]
              rfl
             refine pure_ (i := 9) (N := some 23) (v := ?_) (a' := ?_) #[true, true, false, true, false, true, false, true, false, true, false, false, false, false, false, false, false, false, false, false, false, false, false, false, false, false, false, false, false, false, false] rfl rfl (any_of HT_.out (by kernel_rfl)) (fun _ _ _ h => h) (Or.inl ⟨by rfl, ?_⟩) ?_ ?_
             rotate_left
             ·intro w'
              go_simp
              with_reducible rfl
             rotate_left
             ·simp only [Act.put, List.setIfInBounds_toArray, List.set_cons_zero, List.set_cons_succ, i64_w, i32_w]
              rfl
             refine pure_ (i := 13) (N := some 27) (v := ?_) (a' := ?_) #[true, true, false, true, false, true, false, true, false, true, false, false, false, true, false, false, false, false, false, false, false, false, false, false, false, false, false, false, false, false, false] rfl rfl (any_of HT_.out (by kernel_rfl)) (fun _ _ _ h => h) (Or.inl ⟨by rfl, ?_⟩) ?_ ?_
             rotate_left
             ·intro w'
              go_simp
              with_reducible rfl
             rotate_left
             ·simp only [Act.put, List.setIfInBounds_toArray, List.set_cons_zero, List.set_cons_succ, i64_w, i32_w]
              rfl
             refine pure_ (i := 15) (N := some 29) (v := ?_) (a' := ?_) #[true, true, false, true, false, true, false, true, false, true, false, false, false, true, false, true, false, false, false, false, false, false, false, false, false, false, false, false, false, false, false] rfl rfl (any_of HT_.out (by kernel_rfl)) (fun _ _ _ h => h) (Or.inl ⟨by rfl, ?_⟩) ?_ ?_
             rotate_left
             ·intro w'
              go_simp
              with_reducible rfl
             rotate_left
             ·simp only [Act.put, List.setIfInBounds_toArray, List.set_cons_zero, List.set_cons_succ, i64_w, i32_w]
              rfl
             refine pure_ (i := 17) (N := some 31) (v := ?_) (a' := ?_) #[true, true, false, true, false, true, false, true, false, true, false, false, false, true, false, true, false, true, false, false, false, false, false, false, false, false, false, false, false, false, false] rfl rfl (any_of HT_.out (by kernel_rfl)) (fun _ _ _ h => h) (Or.inl ⟨by rfl, ?_⟩) ?_ ?_
             rotate_left
             ·intro w'
              go_simp
              with_reducible rfl
             rotate_left
             ·simp only [Act.put, List.setIfInBounds_toArray, List.set_cons_zero, List.set_cons_succ, i64_w, i32_w]
              rfl
             refine pure_ (i := 19) (N := some 33) (v := ?_) (a' := ?_) #[true, true, false, true, false, true, false, true, false, true, false, false, false, true, false, true, false, true, false, true, false, false, false, false, false, false, false, false, false, false, false] rfl rfl (any_of HT_.out (by kernel_rfl)) (fun _ _ _ h => h) (Or.inl ⟨by rfl, ?_⟩) ?_ ?_
             rotate_left
             ·intro w'
              go_simp
              with_reducible rfl
             rotate_left
             ·simp only [Act.put, List.setIfInBounds_toArray, List.set_cons_zero, List.set_cons_succ, i64_w, i32_w]
              rfl
             refine pure_ (i := 21) (N := some 35) (v := ?_) (a' := ?_) #[true, true, false, true, false, true, false, true, false, true, false, false, false, true, false, true, false, true, false, true, false, true, false, false, false, false, false, false, false, false, false] rfl rfl (any_of HT_.out (by kernel_rfl)) (fun _ _ _ h => h) (Or.inl ⟨by rfl, ?_⟩) ?_ ?_
             rotate_left
             ·intro w'
              go_simp
              with_reducible rfl
             rotate_left
             ·simp only [Act.put, List.setIfInBounds_toArray, List.set_cons_zero, List.set_cons_succ, i64_w, i32_w]
              rfl
             refine pure_ (i := 23) (N := some 37) (v := ?_) (a' := ?_) #[true, true, false, true, false, true, false, true, false, true, false, false, false, true, false, true, false, true, false, true, false, true, false, true, false, false, false, false, false, false, false] rfl rfl (any_of HT_.out (by kernel_rfl)) (fun _ _ _ h => h) (Or.inl ⟨by rfl, ?_⟩) ?_ ?_
             rotate_left
             ·intro w'
              go_simp
              with_reducible rfl
             rotate_left
             ·simp only [Act.put, List.setIfInBounds_toArray, List.set_cons_zero, List.set_cons_succ, i64_w, i32_w]
              rfl
             refine pure_ (i := 26) (N := some 40) (v := ?_) (a' := ?_) #[true, true, false, true, false, true, false, true, false, true, false, false, false, true, false, true, false, true, false, true, false, true, false, true, false, false, true, false, false, false, false] rfl rfl (any_of HT_.out (by kernel_rfl)) (fun _ _ _ h => h) (Or.inl ⟨by rfl, ?_⟩) ?_ ?_
             rotate_left
             ·intro w'
              go_simp
              with_reducible rfl
             rotate_left
             ·simp only [Act.put, List.setIfInBounds_toArray, List.set_cons_zero, List.set_cons_succ, i64_w, i32_w]
              rfl
             refine inv_at [2, 4, 6, 8, 10, 11, 12, 14, 16, 18, 20, 22, 24, 25, 27, 28, 29, 30] (fun a0_ b a w' => ∃ (v281 : Value) (adz_v281 : Addr) (m28_ : Value), a = putSel a0_ b [(2, 16, .string ((strOfNums y277).extract 0 1)), (4, 18, .string ((strOfNums y277) ++ (⟨#[46]⟩ : ByteArray))), (6, 20, .string (((strOfNums y277) ++ (⟨#[46]⟩ : ByteArray)) ++ (strOfNums y277))), (8, 22, .string ((strOfNums y277) ++ (⟨#[46]⟩ : ByteArray))), (10, 24, .string ((strOfNums y277).extract 1 (strOfNums y277).size)), (11, 25, .string (((strOfNums y277) ++ (⟨#[46]⟩ : ByteArray)) ++ ((strOfNums y277).extract 1 (strOfNums y277).size))), (12, 26, .string ((((strOfNums y277) ++ (⟨#[46]⟩ : ByteArray)) ++ ((strOfNums y277).extract 1 (strOfNums y277).size)) ++ (⟨#[48]⟩ : ByteArray))), (14, 28, .string ((⟨#[48, 46]⟩ : ByteArray) ++ (strOfNums y277))), (16, 30, .string ((⟨#[48, 48, 48]⟩ : ByteArray) ++ (strOfNums y277))), (18, 32, .string ((strOfNums y277) ++ (⟨#[46]⟩ : ByteArray))), (20, 34, .string ((⟨#[46]⟩ : ByteArray) ++ (strOfNums y277))), (22, 36, .string ((strOfNums y277) ++ (⟨#[46, 49, 50, 51, 52, 53, 54, 55]⟩ : ByteArray))), (24, 38, .string ((strOfNums y277) ++ (⟨#[97]⟩ : ByteArray))), (25, 39, v281), (27, 41, .int .i64 t283), (28, 42, m28_), (29, 43, .string (rdOf ByteArray.empty y280 t283)), (30, 2, .string (rdOf ByteArray.empty y280 t283))] ∧ (Kd.R (Kd.int .u8) 5 w' w.heap.size (fun _ => True) v278 y277) ∧ (b 27 = false → IsS71 w0 w' g s0_0 t276) ∧ (KeepBut w w' g none) ∧ (Below w0.heap.size w0 w') ∧ (b 25 = true → Kd.R Kd.string 9 w' w.heap.size (fun _ => True) v281 y280) ∧ (b 25 = true → ∃ c_, (v281 : Value) = .slice (some adz_v281) y280.length c_) ∧ (b 27 = true → IsS71 w0 w' g s0_0 t284) ∧ (b 28 = true → (m28_ : Value) = .pointer (some (adz_v281.add (t283).toNat)))) HT_.out HW_.out (by kernel_rfl) (by kernel_rfl) ?_ ?_ ?_
             ·exact ⟨.bool false, ⟨0, 0, none⟩, .bool false, by simp only [putSel, Bool.false_eq_true, if_false], HO279.out, fun _ => HI0.out, HK.out, HB.out, fun h_ => absurd h_ (by decide), fun h_ => absurd h_ (by decide), fun h_ => absurd h_ (by decide), fun h_ => absurd h_ (by decide)⟩
             ·skip
              clear HB HI0 HK HO279
              refine steps_cons ?_ ?_
              ·rintro b a w' ⟨v281, adz_v281, m28_, ha, Q_HO279, Q_HI0, Q_HK, Q_HB, Q_HO282, Q_HA_HO282, Q_HI0_e27, Q_X28_⟩ hb_ hon hoff
               refine ⟨_, rfl, fun K hK => ?_⟩
               have e15 : a.tmps[15]? = some (.string (strOfNums y277)) := by rw [ha]; exact (putSel_off rfl).trans rfl
               replace ha := Aside0.mk ha
               have HO279 := Aside0.mk Q_HO279
               have HK := Aside0.mk Q_HK
               have HB := Aside0.mk Q_HB
               refine value_ (w1 := w') (v := .string ((strOfNums y277).extract 0 1)) (by rfl) rfl ?_ ?_
               ·go_simp
                (try simp only [i64_w])
                try rfl
               refine hK.out _ _ ⟨v281, adz_v281, m28_, (by rw [ha.out]; exact putSel_upk 0 hb_ rfl rfl rfl), Q_HO279, Q_HI0, Q_HK, Q_HB, fun h0_ => absurd ((hoff 25 (by kernel_rfl)).symm.trans h0_) (by decide), fun h0_ => absurd ((hoff 25 (by kernel_rfl)).symm.trans h0_) (by decide), Q_HI0_e27, fun h0_ => absurd ((hoff 28 (by kernel_rfl)).symm.trans h0_) (by decide)⟩
              refine steps_cons ?_ ?_
              ·rintro b a w' ⟨v281, adz_v281, m28_, ha, Q_HO279, Q_HI0, Q_HK, Q_HB, Q_HO282, Q_HA_HO282, Q_HI0_e27, Q_X28_⟩ hb_ hon hoff
               refine ⟨_, rfl, fun K hK => ?_⟩
               have e17 : a.tmps[17]? = some (.string (strOfNums y277)) := by rw [ha]; exact (putSel_off rfl).trans rfl
               replace ha := Aside0.mk ha
               have HO279 := Aside0.mk Q_HO279
               have HK := Aside0.mk Q_HK
               have HB := Aside0.mk Q_HB
               refine value_ (w1 := w') (v := .string ((strOfNums y277) ++ (⟨#[46]⟩ : ByteArray))) (by rfl) rfl ?_ ?_
               ·go_simp
                (try simp only [i64_w])
                try rfl
               refine hK.out _ _ ⟨v281, adz_v281, m28_, (by rw [ha.out]; exact putSel_upk 1 hb_ rfl rfl rfl), Q_HO279, Q_HI0, Q_HK, Q_HB, fun h0_ => absurd ((hoff 25 (by kernel_rfl)).symm.trans h0_) (by decide), fun h0_ => absurd ((hoff 25 (by kernel_rfl)).symm.trans h0_) (by decide), Q_HI0_e27, fun h0_ => absurd ((hoff 28 (by kernel_rfl)).symm.trans h0_) (by decide)⟩
              refine steps_cons ?_ ?_
              ·rintro b a w' ⟨v281, adz_v281, m28_, ha, Q_HO279, Q_HI0, Q_HK, Q_HB, Q_HO282, Q_HA_HO282, Q_HI0_e27, Q_X28_⟩ hb_ hon hoff
               refine ⟨_, rfl, fun K hK => ?_⟩
               have e18 : a.tmps[18]? = some (.string ((strOfNums y277) ++ (⟨#[46]⟩ : ByteArray))) := by rw [ha]; exact putSel_on (e := (4, 18, .string ((strOfNums y277) ++ (⟨#[46]⟩ : ByteArray)))) 1 rfl rfl (hon 4 (by kernel_rfl)) rfl
               have e19 : a.tmps[19]? = some (.string (strOfNums y277)) := by rw [ha]; exact (putSel_off rfl).trans rfl
               replace ha := Aside0.mk ha
               have HO279 := Aside0.mk Q_HO279
               have HK := Aside0.mk Q_HK
               have HB := Aside0.mk Q_HB
               refine value_ (w1 := w') (v := .string (((strOfNums y277) ++ (⟨#[46]⟩ : ByteArray)) ++ (strOfNums y277))) (by rfl) rfl ?_ ?_
               ·go_simp
                (try simp only [i64_w])
                try rfl
               refine hK.out _ _ ⟨v281, adz_v281, m28_, (by rw [ha.out]; exact putSel_upk 2 hb_ rfl rfl rfl), Q_HO279, Q_HI0, Q_HK, Q_HB, fun h0_ => absurd ((hoff 25 (by kernel_rfl)).symm.trans h0_) (by decide), fun h0_ => absurd ((hoff 25 (by kernel_rfl)).symm.trans h0_) (by decide), Q_HI0_e27, fun h0_ => absurd ((hoff 28 (by kernel_rfl)).symm.trans h0_) (by decide)⟩
              refine steps_cons ?_ ?_
              ·rintro b a w' ⟨v281, adz_v281, m28_, ha, Q_HO279, Q_HI0, Q_HK, Q_HB, Q_HO282, Q_HA_HO282, Q_HI0_e27, Q_X28_⟩ hb_ hon hoff
               refine ⟨_, rfl, fun K hK => ?_⟩
               have e21 : a.tmps[21]? = some (.string (strOfNums y277)) := by rw [ha]; exact (putSel_off rfl).trans rfl
               replace ha := Aside0.mk ha
               have HO279 := Aside0.mk Q_HO279
               have HK := Aside0.mk Q_HK
               have HB := Aside0.mk Q_HB
               refine value_ (w1 := w') (v := .string ((strOfNums y277) ++ (⟨#[46]⟩ : ByteArray))) (by rfl) rfl ?_ ?_
               ·go_simp
                (try simp only [i64_w])
                try rfl
               refine hK.out _ _ ⟨v281, adz_v281, m28_, (by rw [ha.out]; exact putSel_upk 3 hb_ rfl rfl rfl), Q_HO279, Q_HI0, Q_HK, Q_HB, fun h0_ => absurd ((hoff 25 (by kernel_rfl)).symm.trans h0_) (by decide), fun h0_ => absurd ((hoff 25 (by kernel_rfl)).symm.trans h0_) (by decide), Q_HI0_e27, fun h0_ => absurd ((hoff 28 (by kernel_rfl)).symm.trans h0_) (by decide)⟩
              refine steps_cons ?_ ?_
              ·rintro b a w' ⟨v281, adz_v281, m28_, ha, Q_HO279, Q_HI0, Q_HK, Q_HB, Q_HO282, Q_HA_HO282, Q_HI0_e27, Q_X28_⟩ hb_ hon hoff
               refine ⟨_, rfl, fun K hK => ?_⟩
               have e23 : a.tmps[23]? = some (.string (strOfNums y277)) := by rw [ha]; exact (putSel_off rfl).trans rfl
               replace ha := Aside0.mk ha
               have HO279 := Aside0.mk Q_HO279
               have HK := Aside0.mk Q_HK
               have HB := Aside0.mk Q_HB
               refine value_ (w1 := w') (v := .string ((strOfNums y277).extract 1 (strOfNums y277).size)) (by rfl) rfl ?_ ?_
               ·go_simp
                (try simp only [i64_w])
                try rfl
               refine hK.out _ _ ⟨v281, adz_v281, m28_, (by rw [ha.out]; exact putSel_upk 4 hb_ rfl rfl rfl), Q_HO279, Q_HI0, Q_HK, Q_HB, fun h0_ => absurd ((hoff 25 (by kernel_rfl)).symm.trans h0_) (by decide), fun h0_ => absurd ((hoff 25 (by kernel_rfl)).symm.trans h0_) (by decide), Q_HI0_e27, fun h0_ => absurd ((hoff 28 (by kernel_rfl)).symm.trans h0_) (by decide)⟩
              refine steps_cons ?_ ?_
              ·rintro b a w' ⟨v281, adz_v281, m28_, ha, Q_HO279, Q_HI0, Q_HK, Q_HB, Q_HO282, Q_HA_HO282, Q_HI0_e27, Q_X28_⟩ hb_ hon hoff
               refine ⟨_, rfl, fun K hK => ?_⟩
               have e22 : a.tmps[22]? = some (.string ((strOfNums y277) ++ (⟨#[46]⟩ : ByteArray))) := by rw [ha]; exact putSel_on (e := (8, 22, .string ((strOfNums y277) ++ (⟨#[46]⟩ : ByteArray)))) 3 rfl rfl (hon 8 (by kernel_rfl)) rfl
               have e24 : a.tmps[24]? = some (.string ((strOfNums y277).extract 1 (strOfNums y277).size)) := by rw [ha]; exact putSel_on (e := (10, 24, .string ((strOfNums y277).extract 1 (strOfNums y277).size))) 4 rfl rfl (hon 10 (by kernel_rfl)) rfl
               replace ha := Aside0.mk ha
               have HO279 := Aside0.mk Q_HO279
               have HK := Aside0.mk Q_HK
               have HB := Aside0.mk Q_HB
               refine value_ (w1 := w') (v := .string (((strOfNums y277) ++ (⟨#[46]⟩ : ByteArray)) ++ ((strOfNums y277).extract 1 (strOfNums y277).size))) (by rfl) rfl ?_ ?_
               ·go_simp
                (try simp only [i64_w])
                try rfl
               refine hK.out _ _ ⟨v281, adz_v281, m28_, (by rw [ha.out]; exact putSel_upk 5 hb_ rfl rfl rfl), Q_HO279, Q_HI0, Q_HK, Q_HB, fun h0_ => absurd ((hoff 25 (by kernel_rfl)).symm.trans h0_) (by decide), fun h0_ => absurd ((hoff 25 (by kernel_rfl)).symm.trans h0_) (by decide), Q_HI0_e27, fun h0_ => absurd ((hoff 28 (by kernel_rfl)).symm.trans h0_) (by decide)⟩
              refine steps_cons ?_ ?_
              ·rintro b a w' ⟨v281, adz_v281, m28_, ha, Q_HO279, Q_HI0, Q_HK, Q_HB, Q_HO282, Q_HA_HO282, Q_HI0_e27, Q_X28_⟩ hb_ hon hoff
               refine ⟨_, rfl, fun K hK => ?_⟩
               have e25 : a.tmps[25]? = some (.string (((strOfNums y277) ++ (⟨#[46]⟩ : ByteArray)) ++ ((strOfNums y277).extract 1 (strOfNums y277).size))) := by rw [ha]; exact putSel_on (e := (11, 25, .string (((strOfNums y277) ++ (⟨#[46]⟩ : ByteArray)) ++ ((strOfNums y277).extract 1 (strOfNums y277).size)))) 5 rfl rfl (hon 11 (by kernel_rfl)) rfl
               replace ha := Aside0.mk ha
               have HO279 := Aside0.mk Q_HO279
               have HK := Aside0.mk Q_HK
               have HB := Aside0.mk Q_HB
               refine value_ (w1 := w') (v := .string ((((strOfNums y277) ++ (⟨#[46]⟩ : ByteArray)) ++ ((strOfNums y277).extract 1 (strOfNums y277).size)) ++ (⟨#[48]⟩ : ByteArray))) (by rfl) rfl ?_ ?_
               ·go_simp
                (try simp only [i64_w])
                try rfl
               refine hK.out _ _ ⟨v281, adz_v281, m28_, (by rw [ha.out]; exact putSel_upk 6 hb_ rfl rfl rfl), Q_HO279, Q_HI0, Q_HK, Q_HB, fun h0_ => absurd ((hoff 25 (by kernel_rfl)).symm.trans h0_) (by decide), fun h0_ => absurd ((hoff 25 (by kernel_rfl)).symm.trans h0_) (by decide), Q_HI0_e27, fun h0_ => absurd ((hoff 28 (by kernel_rfl)).symm.trans h0_) (by decide)⟩
              refine steps_cons ?_ ?_
              ·rintro b a w' ⟨v281, adz_v281, m28_, ha, Q_HO279, Q_HI0, Q_HK, Q_HB, Q_HO282, Q_HA_HO282, Q_HI0_e27, Q_X28_⟩ hb_ hon hoff
               refine ⟨_, rfl, fun K hK => ?_⟩
               have e27 : a.tmps[27]? = some (.string (strOfNums y277)) := by rw [ha]; exact (putSel_off rfl).trans rfl
               replace ha := Aside0.mk ha
               have HO279 := Aside0.mk Q_HO279
               have HK := Aside0.mk Q_HK
               have HB := Aside0.mk Q_HB
               refine value_ (w1 := w') (v := .string ((⟨#[48, 46]⟩ : ByteArray) ++ (strOfNums y277))) (by rfl) rfl ?_ ?_
               ·go_simp
                (try simp only [i64_w])
                try rfl
               refine hK.out _ _ ⟨v281, adz_v281, m28_, (by rw [ha.out]; exact putSel_upk 7 hb_ rfl rfl rfl), Q_HO279, Q_HI0, Q_HK, Q_HB, fun h0_ => absurd ((hoff 25 (by kernel_rfl)).symm.trans h0_) (by decide), fun h0_ => absurd ((hoff 25 (by kernel_rfl)).symm.trans h0_) (by decide), Q_HI0_e27, fun h0_ => absurd ((hoff 28 (by kernel_rfl)).symm.trans h0_) (by decide)⟩
              refine steps_cons ?_ ?_
              ·rintro b a w' ⟨v281, adz_v281, m28_, ha, Q_HO279, Q_HI0, Q_HK, Q_HB, Q_HO282, Q_HA_HO282, Q_HI0_e27, Q_X28_⟩ hb_ hon hoff
               refine ⟨_, rfl, fun K hK => ?_⟩
               have e29 : a.tmps[29]? = some (.string (strOfNums y277)) := by rw [ha]; exact (putSel_off rfl).trans rfl
               replace ha := Aside0.mk ha
               have HO279 := Aside0.mk Q_HO279
               have HK := Aside0.mk Q_HK
               have HB := Aside0.mk Q_HB
               refine value_ (w1 := w') (v := .string ((⟨#[48, 48, 48]⟩ : ByteArray) ++ (strOfNums y277))) (by rfl) rfl ?_ ?_
               ·go_simp
                (try simp only [i64_w])
                try rfl
               refine hK.out _ _ ⟨v281, adz_v281, m28_, (by rw [ha.out]; exact putSel_upk 8 hb_ rfl rfl rfl), Q_HO279, Q_HI0, Q_HK, Q_HB, fun h0_ => absurd ((hoff 25 (by kernel_rfl)).symm.trans h0_) (by decide), fun h0_ => absurd ((hoff 25 (by kernel_rfl)).symm.trans h0_) (by decide), Q_HI0_e27, fun h0_ => absurd ((hoff 28 (by kernel_rfl)).symm.trans h0_) (by decide)⟩
              refine steps_cons ?_ ?_
              ·rintro b a w' ⟨v281, adz_v281, m28_, ha, Q_HO279, Q_HI0, Q_HK, Q_HB, Q_HO282, Q_HA_HO282, Q_HI0_e27, Q_X28_⟩ hb_ hon hoff
               refine ⟨_, rfl, fun K hK => ?_⟩
               have e31 : a.tmps[31]? = some (.string (strOfNums y277)) := by rw [ha]; exact (putSel_off rfl).trans rfl
               replace ha := Aside0.mk ha
               have HO279 := Aside0.mk Q_HO279
               have HK := Aside0.mk Q_HK
               have HB := Aside0.mk Q_HB
               refine value_ (w1 := w') (v := .string ((strOfNums y277) ++ (⟨#[46]⟩ : ByteArray))) (by rfl) rfl ?_ ?_
               ·go_simp
                (try simp only [i64_w])
                try rfl
               refine hK.out _ _ ⟨v281, adz_v281, m28_, (by rw [ha.out]; exact putSel_upk 9 hb_ rfl rfl rfl), Q_HO279, Q_HI0, Q_HK, Q_HB, fun h0_ => absurd ((hoff 25 (by kernel_rfl)).symm.trans h0_) (by decide), fun h0_ => absurd ((hoff 25 (by kernel_rfl)).symm.trans h0_) (by decide), Q_HI0_e27, fun h0_ => absurd ((hoff 28 (by kernel_rfl)).symm.trans h0_) (by decide)⟩
              refine steps_cons ?_ ?_
              ·rintro b a w' ⟨v281, adz_v281, m28_, ha, Q_HO279, Q_HI0, Q_HK, Q_HB, Q_HO282, Q_HA_HO282, Q_HI0_e27, Q_X28_⟩ hb_ hon hoff
               refine ⟨_, rfl, fun K hK => ?_⟩
               have e33 : a.tmps[33]? = some (.string (strOfNums y277)) := by rw [ha]; exact (putSel_off rfl).trans rfl
               replace ha := Aside0.mk ha
               have HO279 := Aside0.mk Q_HO279
               have HK := Aside0.mk Q_HK
               have HB := Aside0.mk Q_HB
               refine value_ (w1 := w') (v := .string ((⟨#[46]⟩ : ByteArray) ++ (strOfNums y277))) (by rfl) rfl ?_ ?_
               ·go_simp
                (try simp only [i64_w])
                try rfl
               refine hK.out _ _ ⟨v281, adz_v281, m28_, (by rw [ha.out]; exact putSel_upk 10 hb_ rfl rfl rfl), Q_HO279, Q_HI0, Q_HK, Q_HB, fun h0_ => absurd ((hoff 25 (by kernel_rfl)).symm.trans h0_) (by decide), fun h0_ => absurd ((hoff 25 (by kernel_rfl)).symm.trans h0_) (by decide), Q_HI0_e27, fun h0_ => absurd ((hoff 28 (by kernel_rfl)).symm.trans h0_) (by decide)⟩
              refine steps_cons ?_ ?_
              ·rintro b a w' ⟨v281, adz_v281, m28_, ha, Q_HO279, Q_HI0, Q_HK, Q_HB, Q_HO282, Q_HA_HO282, Q_HI0_e27, Q_X28_⟩ hb_ hon hoff
               refine ⟨_, rfl, fun K hK => ?_⟩
               have e35 : a.tmps[35]? = some (.string (strOfNums y277)) := by rw [ha]; exact (putSel_off rfl).trans rfl
               replace ha := Aside0.mk ha
               have HO279 := Aside0.mk Q_HO279
               have HK := Aside0.mk Q_HK
               have HB := Aside0.mk Q_HB
               refine value_ (w1 := w') (v := .string ((strOfNums y277) ++ (⟨#[46, 49, 50, 51, 52, 53, 54, 55]⟩ : ByteArray))) (by rfl) rfl ?_ ?_
               ·go_simp
                (try simp only [i64_w])
                try rfl
               refine hK.out _ _ ⟨v281, adz_v281, m28_, (by rw [ha.out]; exact putSel_upk 11 hb_ rfl rfl rfl), Q_HO279, Q_HI0, Q_HK, Q_HB, fun h0_ => absurd ((hoff 25 (by kernel_rfl)).symm.trans h0_) (by decide), fun h0_ => absurd ((hoff 25 (by kernel_rfl)).symm.trans h0_) (by decide), Q_HI0_e27, fun h0_ => absurd ((hoff 28 (by kernel_rfl)).symm.trans h0_) (by decide)⟩
              refine steps_cons ?_ ?_
              ·rintro b a w' ⟨v281, adz_v281, m28_, ha, Q_HO279, Q_HI0, Q_HK, Q_HB, Q_HO282, Q_HA_HO282, Q_HI0_e27, Q_X28_⟩ hb_ hon hoff
               refine ⟨_, rfl, fun K hK => ?_⟩
               have e37 : a.tmps[37]? = some (.string (strOfNums y277)) := by rw [ha]; exact (putSel_off rfl).trans rfl
               replace ha := Aside0.mk ha
               have HO279 := Aside0.mk Q_HO279
               have HK := Aside0.mk Q_HK
               have HB := Aside0.mk Q_HB
               refine value_ (w1 := w') (v := .string ((strOfNums y277) ++ (⟨#[97]⟩ : ByteArray))) (by rfl) rfl ?_ ?_
               ·go_simp
                (try simp only [i64_w])
                try rfl
               refine hK.out _ _ ⟨v281, adz_v281, m28_, (by rw [ha.out]; exact putSel_upk 12 hb_ rfl rfl rfl), Q_HO279, Q_HI0, Q_HK, Q_HB, fun h0_ => absurd ((hoff 25 (by kernel_rfl)).symm.trans h0_) (by decide), fun h0_ => absurd ((hoff 25 (by kernel_rfl)).symm.trans h0_) (by decide), Q_HI0_e27, fun h0_ => absurd ((hoff 28 (by kernel_rfl)).symm.trans h0_) (by decide)⟩
              refine steps_cons ?_ ?_
              ·rintro b a w' ⟨v281, adz_v281, m28_, ha, Q_HO279, Q_HI0, Q_HK, Q_HB, Q_HO282, Q_HA_HO282, Q_HI0_e27, Q_X28_⟩ hb_ hon hoff
               refine ⟨_, rfl, fun K hK => ?_⟩
               have e14 : a.tmps[14]? = some (.string (strOfNums y277)) := by rw [ha]; exact (putSel_off rfl).trans rfl
               have e16 : a.tmps[16]? = some (.string ((strOfNums y277).extract 0 1)) := by rw [ha]; exact putSel_on (e := (2, 16, .string ((strOfNums y277).extract 0 1))) 0 rfl rfl (hon 2 (by kernel_rfl)) rfl
               have e20 : a.tmps[20]? = some (.string (((strOfNums y277) ++ (⟨#[46]⟩ : ByteArray)) ++ (strOfNums y277))) := by rw [ha]; exact putSel_on (e := (6, 20, .string (((strOfNums y277) ++ (⟨#[46]⟩ : ByteArray)) ++ (strOfNums y277)))) 2 rfl rfl (hon 6 (by kernel_rfl)) rfl
               have e26 : a.tmps[26]? = some (.string ((((strOfNums y277) ++ (⟨#[46]⟩ : ByteArray)) ++ ((strOfNums y277).extract 1 (strOfNums y277).size)) ++ (⟨#[48]⟩ : ByteArray))) := by rw [ha]; exact putSel_on (e := (12, 26, .string ((((strOfNums y277) ++ (⟨#[46]⟩ : ByteArray)) ++ ((strOfNums y277).extract 1 (strOfNums y277).size)) ++ (⟨#[48]⟩ : ByteArray)))) 6 rfl rfl (hon 12 (by kernel_rfl)) rfl
               have e28 : a.tmps[28]? = some (.string ((⟨#[48, 46]⟩ : ByteArray) ++ (strOfNums y277))) := by rw [ha]; exact putSel_on (e := (14, 28, .string ((⟨#[48, 46]⟩ : ByteArray) ++ (strOfNums y277)))) 7 rfl rfl (hon 14 (by kernel_rfl)) rfl
               have e30 : a.tmps[30]? = some (.string ((⟨#[48, 48, 48]⟩ : ByteArray) ++ (strOfNums y277))) := by rw [ha]; exact putSel_on (e := (16, 30, .string ((⟨#[48, 48, 48]⟩ : ByteArray) ++ (strOfNums y277)))) 8 rfl rfl (hon 16 (by kernel_rfl)) rfl
               have e32 : a.tmps[32]? = some (.string ((strOfNums y277) ++ (⟨#[46]⟩ : ByteArray))) := by rw [ha]; exact putSel_on (e := (18, 32, .string ((strOfNums y277) ++ (⟨#[46]⟩ : ByteArray)))) 9 rfl rfl (hon 18 (by kernel_rfl)) rfl
               have e34 : a.tmps[34]? = some (.string ((⟨#[46]⟩ : ByteArray) ++ (strOfNums y277))) := by rw [ha]; exact putSel_on (e := (20, 34, .string ((⟨#[46]⟩ : ByteArray) ++ (strOfNums y277)))) 10 rfl rfl (hon 20 (by kernel_rfl)) rfl
               have e36 : a.tmps[36]? = some (.string ((strOfNums y277) ++ (⟨#[46, 49, 50, 51, 52, 53, 54, 55]⟩ : ByteArray))) := by rw [ha]; exact putSel_on (e := (22, 36, .string ((strOfNums y277) ++ (⟨#[46, 49, 50, 51, 52, 53, 54, 55]⟩ : ByteArray)))) 11 rfl rfl (hon 22 (by kernel_rfl)) rfl
               have e38 : a.tmps[38]? = some (.string ((strOfNums y277) ++ (⟨#[97]⟩ : ByteArray))) := by rw [ha]; exact putSel_on (e := (24, 38, .string ((strOfNums y277) ++ (⟨#[97]⟩ : ByteArray)))) 12 rfl rfl (hon 24 (by kernel_rfl)) rfl
               replace ha := Aside0.mk ha
               have HO279 := Aside0.mk Q_HO279
               have HK := Aside0.mk Q_HK
               have HB := Aside0.mk Q_HB
               refine Kd.R_lit_step Kd.string _ 9 ?hg (N := 39) ?hd (xs := ([strOfNums y277, (strOfNums y277).extract 0 1, ((strOfNums y277) ++ (⟨#[46]⟩ : ByteArray)) ++ (strOfNums y277), (((strOfNums y277) ++ (⟨#[46]⟩ : ByteArray)) ++ ((strOfNums y277).extract 1 (strOfNums y277).size)) ++ (⟨#[48]⟩ : ByteArray), (⟨#[48, 46]⟩ : ByteArray) ++ (strOfNums y277), (⟨#[48, 48, 48]⟩ : ByteArray) ++ (strOfNums y277), (strOfNums y277) ++ (⟨#[46]⟩ : ByteArray), (⟨#[46]⟩ : ByteArray) ++ (strOfNums y277), (⟨#[]⟩ : ByteArray), (strOfNums y277) ++ (⟨#[46, 49, 50, 51, 52, 53, 54, 55]⟩ : ByteArray), (⟨#[49, 50, 51, 52, 53, 54, 55, 56, 57, 48]⟩ : ByteArray), (⟨#[57, 57, 57, 57, 57, 57, 57, 57, 57, 46, 57]⟩ : ByteArray), (strOfNums y277) ++ (⟨#[97]⟩ : ByteArray), (⟨#[49, 46, 50, 46, 51]⟩ : ByteArray)] : List ByteArray)) (inner := [.string (strOfNums y277), .string ((strOfNums y277).extract 0 1), .string (((strOfNums y277) ++ (⟨#[46]⟩ : ByteArray)) ++ (strOfNums y277)), .string ((((strOfNums y277) ++ (⟨#[46]⟩ : ByteArray)) ++ ((strOfNums y277).extract 1 (strOfNums y277).size)) ++ (⟨#[48]⟩ : ByteArray)), .string ((⟨#[48, 46]⟩ : ByteArray) ++ (strOfNums y277)), .string ((⟨#[48, 48, 48]⟩ : ByteArray) ++ (strOfNums y277)), .string ((strOfNums y277) ++ (⟨#[46]⟩ : ByteArray)), .string ((⟨#[46]⟩ : ByteArray) ++ (strOfNums y277)), .string (⟨#[]⟩ : ByteArray), .string ((strOfNums y277) ++ (⟨#[46, 49, 50, 51, 52, 53, 54, 55]⟩ : ByteArray)), .string (⟨#[49, 50, 51, 52, 53, 54, 55, 56, 57, 48]⟩ : ByteArray), .string (⟨#[57, 57, 57, 57, 57, 57, 57, 57, 57, 46, 57]⟩ : ByteArray), .string ((strOfNums y277) ++ (⟨#[97]⟩ : ByteArray)), .string (⟨#[49, 46, 50, 46, 51]⟩ : ByteArray)]) (ok := fun _ => True) (okp := fun _ => True) ?hr ?hp (fun _ hk => hk) trivial (Below.refl _ _) (Nat.le_refl _) (by simp) ?_; (case hd => rfl); (case hg => rfl); (case hr => first | (go_simp; done) | (go_simp; rfl)); (case hp => exact (Reps.one (show Kd.M Kd.string _ _ _ (strOfNums y277) [.string (strOfNums y277)] from rfl) (Reps.one (show Kd.M Kd.string _ _ _ ((strOfNums y277).extract 0 1) [.string ((strOfNums y277).extract 0 1)] from rfl) (Reps.one (show Kd.M Kd.string _ _ _ (((strOfNums y277) ++ (⟨#[46]⟩ : ByteArray)) ++ (strOfNums y277)) [.string (((strOfNums y277) ++ (⟨#[46]⟩ : ByteArray)) ++ (strOfNums y277))] from rfl) (Reps.one (show Kd.M Kd.string _ _ _ ((((strOfNums y277) ++ (⟨#[46]⟩ : ByteArray)) ++ ((strOfNums y277).extract 1 (strOfNums y277).size)) ++ (⟨#[48]⟩ : ByteArray)) [.string ((((strOfNums y277) ++ (⟨#[46]⟩ : ByteArray)) ++ ((strOfNums y277).extract 1 (strOfNums y277).size)) ++ (⟨#[48]⟩ : ByteArray))] from rfl) (Reps.one (show Kd.M Kd.string _ _ _ ((⟨#[48, 46]⟩ : ByteArray) ++ (strOfNums y277)) [.string ((⟨#[48, 46]⟩ : ByteArray) ++ (strOfNums y277))] from rfl) (Reps.one (show Kd.M Kd.string _ _ _ ((⟨#[48, 48, 48]⟩ : ByteArray) ++ (strOfNums y277)) [.string ((⟨#[48, 48, 48]⟩ : ByteArray) ++ (strOfNums y277))] from rfl) (Reps.one (show Kd.M Kd.string _ _ _ ((strOfNums y277) ++ (⟨#[46]⟩ : ByteArray)) [.string ((strOfNums y277) ++ (⟨#[46]⟩ : ByteArray))] from rfl) (Reps.one (show Kd.M Kd.string _ _ _ ((⟨#[46]⟩ : ByteArray) ++ (strOfNums y277)) [.string ((⟨#[46]⟩ : ByteArray) ++ (strOfNums y277))] from rfl) (Reps.one (show Kd.M Kd.string _ _ _ (⟨#[]⟩ : ByteArray) [.string (⟨#[]⟩ : ByteArray)] from rfl) (Reps.one (show Kd.M Kd.string _ _ _ ((strOfNums y277) ++ (⟨#[46, 49, 50, 51, 52, 53, 54, 55]⟩ : ByteArray)) [.string ((strOfNums y277) ++ (⟨#[46, 49, 50, 51, 52, 53, 54, 55]⟩ : ByteArray))] from rfl) (Reps.one (show Kd.M Kd.string _ _ _ (⟨#[49, 50, 51, 52, 53, 54, 55, 56, 57, 48]⟩ : ByteArray) [.string (⟨#[49, 50, 51, 52, 53, 54, 55, 56, 57, 48]⟩ : ByteArray)] from rfl) (Reps.one (show Kd.M Kd.string _ _ _ (⟨#[57, 57, 57, 57, 57, 57, 57, 57, 57, 46, 57]⟩ : ByteArray) [.string (⟨#[57, 57, 57, 57, 57, 57, 57, 57, 57, 46, 57]⟩ : ByteArray)] from rfl) (Reps.one (show Kd.M Kd.string _ _ _ ((strOfNums y277) ++ (⟨#[97]⟩ : ByteArray)) [.string ((strOfNums y277) ++ (⟨#[97]⟩ : ByteArray))] from rfl) (Reps.one (show Kd.M Kd.string _ _ _ (⟨#[49, 46, 50, 46, 51]⟩ : ByteArray) [.string (⟨#[49, 46, 50, 46, 51]⟩ : ByteArray)] from rfl) (Reps.none _ _))))))))))))))))
               intro v281 w24 ho25 hb hg_ hnew_
               clear hg_ hnew_
               (first | rw [← Ny280.out] at ho25 | (simp only [Int.reduceToNat] at ho25; rw [← Ny280.out] at ho25))
               have n0_ := Aside0.mk (Kd.R_below (zz16_3_ HO279.out) hb)
               have n1_ := Aside0.mk (Kd.R_lower ho25 (keep_size (w := w) (g := g) (row := none) (zz16_0_ HK.out)))
               have n3_ := Aside0.mk (KeepBut.trans (zz16_0_ HK.out) (KeepBut.of_below hb g none) (.inl rfl))
               have n4_ := Aside0.mk (below_step (by repeat (first | (with_reducible first | exact HB.out | apply below_alloc | apply pw_below_drewN | apply below_drew1) | exact HB.out)) hb)
               have z_HI0 := fun (h0_ : b 27 = false) => (show IsS71 w0 w24 g s0_0 t276 from by first | exact (IsS71.below (by repeat (first | (with_reducible first | exact (Q_HI0 h0_) | apply IsS71.alloc | apply IsS71.drewN | apply IsS71.drew | apply IsS71.set_1) | exact (Q_HI0 h0_))) hb))
               have z_HI0_e27 := fun (h0_ : b 27 = true) => (show IsS71 w0 w24 g s0_0 t284 from by first | exact (IsS71.below (by repeat (first | (with_reducible first | exact (Q_HI0_e27 h0_) | apply IsS71.alloc | apply IsS71.drewN | apply IsS71.drew | apply IsS71.set_1) | exact (Q_HI0_e27 h0_))) hb))
               clear HO279
               clear HK
               clear HB
               have HO279 := n0_
               have HO282 := n1_
               have HK := n3_
               have HB := n4_
               clear n0_ n1_ n3_ n4_
               clear hb ho25
               obtain ⟨Ao26, co26, eo26⟩ := Kd.R_slice HO282.out
               subst eo26
               obtain ⟨ado26, fo26, _⟩ := Kd.at_string (Kd.R_reads' HO282.out).2.2 0 (by decide) (by rw [Ny280.out]; simp)
               cases fo26
               refine hK.out _ _ ⟨.slice (some ado26) y280.length co26, ado26, m28_, (by rw [ha.out]; exact putSel_upk 13 hb_ rfl rfl rfl), (zz16_3_ HO279.out), z_HI0, (zz16_0_ HK.out), (by repeat (first | (with_reducible first | exact HB.out | apply below_alloc | apply pw_below_drewN | apply below_drew1) | exact HB.out)), fun _ => (zz16_3_ HO282.out), fun _ => ⟨_, rfl⟩, z_HI0_e27, fun h0_ => absurd ((hoff 28 (by kernel_rfl)).symm.trans h0_) (by decide)⟩
              refine steps_cons ?_ ?_
              ·rintro b a w' ⟨v281, adz_v281, m28_, ha, Q_HO279, Q_HI0, Q_HK, Q_HB, Q_HO282, Q_HA_HO282, Q_HI0_e27, Q_X28_⟩ hb_ hon hoff
               refine ⟨_, rfl, fun K hK => ?_⟩
               have e40 : a.tmps[40]? = some (.pointer (some ⟨g, 0, none⟩)) := by rw [ha]; exact (putSel_off rfl).trans rfl
               replace ha := Aside0.mk ha
               have HO279 := Aside0.mk Q_HO279
               have HI0 := Aside0.mk (Q_HI0 hb_)
               have HK := Aside0.mk Q_HK
               have HB := Aside0.mk Q_HB
               refine goes_ Tryd.func45 (by kernel_rfl) rfl #[.pointer (some ⟨g, 0, none⟩), .int .i64 14] (by rfl) rfl rfl (by first | (simp only [List.map_toArray, List.map_cons, List.map_nil, Act.eval, Array.getD_eq_getD_getElem?, Option.getD_some, e40]; done) | (simp only [List.map_toArray, List.map_cons, List.map_nil, Act.eval, Array.getD_eq_getD_getElem?, Option.getD_some, e40]; rfl)) ?_
               with_reducible refine (spec_l20Rd_pick.calls k g s0_0 t276 14 t283 t284 w0 _ ?side1 ?side2 A15.out).mono ?_
               (case side1 => exact zz16_1_ HI0.out)
               (case side2 => exact zz16_2_ HB.out HI0.out)
               rintro e w24 ⟨rfl, hi, hb, hk⟩
               refine ⟨_, rfl, ?_⟩
               have n0_ := Aside0.mk (Kd.R_mono (Kd.R_keep (IsS71.apart (show IsS71 w0 _ g s0_0 t276 from by repeat (first | (with_reducible first | exact HI0.out | apply IsS71.alloc | apply IsS71.drewN | apply IsS71.drew | apply IsS71.set_1) | exact HI0.out)) (zz16_3_ HO279.out) (by decide)) hk (fun _ h => h.2)) (fun _ h => h.1))
               have n1_ := Aside0.mk (KeepBut.trans (zz16_0_ HK.out) hk (.inl rfl))
               have n2_ := Aside0.mk (hb)
               have n3_ := Aside0.mk (hi)
               have z_HO282 := fun (h0_ : b 25 = true) => (show Kd.R Kd.string 9 w24 w.heap.size (fun _ => True) v281 y280 from by first | exact (Kd.R_mono (Kd.R_keep (IsS71.apart (show IsS71 w0 _ g s0_0 t276 from by repeat (first | (with_reducible first | exact HI0.out | apply IsS71.alloc | apply IsS71.drewN | apply IsS71.drew | apply IsS71.set_1) | exact HI0.out)) (by (with_reducible repeat (first | apply Kd.R_alloc | apply Kd.R_drewN | apply Kd.R_drew)); exact (Q_HO282 h0_)) (by decide)) hk (fun _ h => h.2)) (fun _ h => h.1)) | exact Kd.R_mono (Kd.R_mono (Kd.R_keep (IsS71.apart (show IsS71 w0 _ g s0_0 t276 from by repeat (first | (with_reducible first | exact HI0.out | apply IsS71.alloc | apply IsS71.drewN | apply IsS71.drew | apply IsS71.set_1) | exact HI0.out)) (by (with_reducible repeat (first | apply Kd.R_alloc | apply Kd.R_drewN | apply Kd.R_drew)); exact (Q_HO282 h0_)) (by decide)) hk (fun _ h => h.2)) (fun _ h => h.1)) (fun _ h_ => by first | trivial | exact h_ | exact h_.1))
               clear HO279
               clear HK
               clear HB
               clear HI0
               have HO279 := n0_
               have HK := n1_
               have HB := n2_
               have HI0 := n3_
               clear n0_ n1_ n2_ n3_
               (try clear hb)
               (try clear hb2)
               (try clear hk)
               (try clear hi)
               refine hK.out _ _ ⟨v281, adz_v281, m28_, (by rw [ha.out]; exact putSel_upk 14 hb_ rfl rfl rfl), (zz16_3_ HO279.out), fun h0_ => absurd ((up_self b 27).symm.trans h0_) (by decide), (zz16_0_ HK.out), (zz16_2_ HB.out HI0.out), z_HO282, Q_HA_HO282, fun _ => (zz16_1_ HI0.out), fun h0_ => absurd ((hoff 28 (by kernel_rfl)).symm.trans h0_) (by decide)⟩
              refine steps_cons ?_ ?_
              ·rintro b a w' ⟨v281, adz_v281, m28_, ha, Q_HO279, Q_HI0, Q_HK, Q_HB, Q_HO282, Q_HA_HO282, Q_HI0_e27, Q_X28_⟩ hb_ hon hoff
               refine ⟨_, rfl, fun K hK => ?_⟩
               have e39 : a.tmps[39]? = some (v281) := by rw [ha]; exact putSel_on (e := (25, 39, v281)) 13 rfl rfl (hon 25 (by kernel_rfl)) rfl
               have e41 : a.tmps[41]? = some (.int .i64 t283) := by rw [ha]; exact putSel_on (e := (27, 41, .int .i64 t283)) 14 rfl rfl (hon 27 (by kernel_rfl)) rfl
               replace ha := Aside0.mk ha
               have HO279 := Aside0.mk Q_HO279
               have HK := Aside0.mk Q_HK
               have HB := Aside0.mk Q_HB
               have HO282 := Aside0.mk (Q_HO282 (hon 25 (by kernel_rfl)))
               have HA_HO282 := Aside0.mk (Q_HA_HO282 (hon 25 (by kernel_rfl)))
               have HI0 := Aside0.mk (Q_HI0_e27 (hon 27 (by kernel_rfl)))
               obtain ⟨c_, hv_⟩ := HA_HO282.out
               rw [hv_] at e39
               refine value_ (w1 := w') (v := .pointer (some (adz_v281.add (t283).toNat))) (by rfl) rfl ?_ ?_
               ·go_simp
                (try simp only [i64_w])
                try rfl
               refine hK.out _ _ ⟨v281, adz_v281, (.pointer (some (adz_v281.add (t283).toNat))), (by rw [ha.out]; exact putSel_upk 15 hb_ rfl rfl rfl), Q_HO279, fun h0_ => absurd ((hon 27 (by kernel_rfl)).symm.trans h0_) (by decide), Q_HK, Q_HB, Q_HO282, Q_HA_HO282, Q_HI0_e27, fun _ => rfl⟩
              refine steps_cons ?_ ?_
              ·rintro b a w' ⟨v281, adz_v281, m28_, ha, Q_HO279, Q_HI0, Q_HK, Q_HB, Q_HO282, Q_HA_HO282, Q_HI0_e27, Q_X28_⟩ hb_ hon hoff
               refine ⟨_, rfl, fun K hK => ?_⟩
               have e42 : a.tmps[42]? = some (m28_) := by rw [ha]; exact putSel_on (e := (28, 42, m28_)) 15 rfl rfl (hon 28 (by kernel_rfl)) rfl
               rw [Q_X28_ (hon 28 (by kernel_rfl))] at e42
               replace ha := Aside0.mk ha
               have HO279 := Aside0.mk Q_HO279
               have HK := Aside0.mk Q_HK
               have HB := Aside0.mk Q_HB
               have HO282 := Aside0.mk (Q_HO282 (hon 25 (by kernel_rfl)))
               have HA_HO282 := Aside0.mk (Q_HA_HO282 (hon 25 (by kernel_rfl)))
               have HI0 := Aside0.mk (Q_HI0_e27 (hon 27 (by kernel_rfl)))
               obtain ⟨c_, hv_⟩ := HA_HO282.out
               have hF_ := HO282.out
               rw [hv_] at hF_
               obtain ⟨ad_, ea_, hx_⟩ := Kd.at_string (Kd.R_reads' hF_).2.2 t283 (of_eq_true pi285) (of_eq_true qi285)
               cases ea_
               refine value_ (w1 := w') (v := .string (rdOf ByteArray.empty y280 t283)) (by rfl) rfl ?_ ?_
               ·go_simp
                (try simp only [i64_w])
                try rfl
               refine hK.out _ _ ⟨v281, adz_v281, m28_, (by rw [ha.out]; exact putSel_upk 16 hb_ rfl rfl rfl), Q_HO279, fun h0_ => absurd ((hon 27 (by kernel_rfl)).symm.trans h0_) (by decide), Q_HK, Q_HB, Q_HO282, Q_HA_HO282, Q_HI0_e27, Q_X28_⟩
              refine steps_cons ?_ ?_
              ·rintro b a w' ⟨v281, adz_v281, m28_, ha, Q_HO279, Q_HI0, Q_HK, Q_HB, Q_HO282, Q_HA_HO282, Q_HI0_e27, Q_X28_⟩ hb_ hon hoff
               refine ⟨_, rfl, fun K hK => ?_⟩
               have e43 : a.tmps[43]? = some (.string (rdOf ByteArray.empty y280 t283)) := by rw [ha]; exact putSel_on (e := (29, 43, .string (rdOf ByteArray.empty y280 t283))) 16 rfl rfl (hon 29 (by kernel_rfl)) rfl
               replace ha := Aside0.mk ha
               have HO279 := Aside0.mk Q_HO279
               have HK := Aside0.mk Q_HK
               have HB := Aside0.mk Q_HB
               have HO282 := Aside0.mk (Q_HO282 (hon 25 (by kernel_rfl)))
               have HA_HO282 := Aside0.mk (Q_HA_HO282 (hon 25 (by kernel_rfl)))
               have HI0 := Aside0.mk (Q_HI0_e27 (hon 27 (by kernel_rfl)))
               refine value_ (w1 := w') (v := .string (rdOf ByteArray.empty y280 t283)) (by rfl) rfl ?_ ?_
               ·go_simp
                (try simp only [i64_w])
                try rfl
               refine hK.out _ _ ⟨v281, adz_v281, m28_, (by rw [ha.out]; exact putSel_upk 17 hb_ rfl rfl rfl), Q_HO279, fun h0_ => absurd ((hon 27 (by kernel_rfl)).symm.trans h0_) (by decide), Q_HK, Q_HB, Q_HO282, Q_HA_HO282, Q_HI0_e27, Q_X28_⟩
              exact steps_nil
             rintro b a w28 hall ⟨v281, adz_v281, m28_, ha, Q_HO279, Q_HI0, Q_HK, Q_HB, Q_HO282, Q_HA_HO282, Q_HI0_e27, Q_X28_⟩
             clear HB HI0 HK HO279
             have hb2_ := hall 2 (by kernel_rfl)
             have hb4_ := hall 4 (by kernel_rfl)
             have hb6_ := hall 6 (by kernel_rfl)
             have hb8_ := hall 8 (by kernel_rfl)
             have hb10_ := hall 10 (by kernel_rfl)
             have hb11_ := hall 11 (by kernel_rfl)
             have hb12_ := hall 12 (by kernel_rfl)
             have hb14_ := hall 14 (by kernel_rfl)
             have hb16_ := hall 16 (by kernel_rfl)
             have hb18_ := hall 18 (by kernel_rfl)
             have hb20_ := hall 20 (by kernel_rfl)
             have hb22_ := hall 22 (by kernel_rfl)
             have hb24_ := hall 24 (by kernel_rfl)
             have hb25_ := hall 25 (by kernel_rfl)
             have hb27_ := hall 27 (by kernel_rfl)
             have hb28_ := hall 28 (by kernel_rfl)
             have hb29_ := hall 29 (by kernel_rfl)
             have hb30_ := hall 30 (by kernel_rfl)
             subst ha
             obtain rfl := Q_X28_ hb28_
             simp only [putSel, hb2_, hb4_, hb6_, hb8_, hb10_, hb11_, hb12_, hb14_, hb16_, hb18_, hb20_, hb22_, hb24_, hb25_, hb27_, hb28_, hb29_, hb30_, if_true, Act.put, List.setIfInBounds_toArray, List.set_cons_zero, List.set_cons_succ]
             have HO279 := Aside0.mk Q_HO279
             clear Q_HO279
             clear Q_HI0
             have HK := Aside0.mk Q_HK
             clear Q_HK
             have HB := Aside0.mk Q_HB
             clear Q_HB
             have HO282 := Aside0.mk (Q_HO282 hb25_)
             clear Q_HO282
             have HA_HO282 := Aside0.mk (Q_HA_HO282 hb25_)
             clear Q_HA_HO282
             have HI0 := Aside0.mk (Q_HI0_e27 hb27_)
             clear Q_HI0_e27
             clear hall hb2_ hb4_ hb6_ hb8_ hb10_ hb11_ hb12_ hb14_ hb16_ hb18_ hb20_ hb22_ hb24_ hb25_ hb27_ hb28_ hb29_ hb30_
             obtain ⟨co29, eo29⟩ := HA_HO282.out
             clear HA_HO282
             subst eo29
             try go_wp2
             go_ret
             exact ⟨by first | rfl | (simp [errW_none, errW_some] <;> rfl) | (simp [*, errW_none, errW_some] <;> rfl), zz16_1_ HI0.out, zz16_2_ HB.out HI0.out, zz16_0_ HK.out⟩
            ·rw [if_neg c17] at H
             exact absurd H (by simp)
           ·rw [if_neg c16] at H
            exact absurd H (by simp)
          ·rw [if_neg c14] at H
           exact absurd H (by simp)
         ·rw [if_neg c13] at H
          exact absurd H (by simp)
        ·rw [if_neg c12] at H
         exact absurd H (by simp)
       ·rw [if_neg c11] at H
        exact absurd H (by simp)
      ·rw [if_neg c10] at H
       exact absurd H (by simp)
     ·rw [if_neg c9] at H
      exact absurd H (by simp)
    ·rw [if_neg c7] at H
     exact absurd H (by simp)
   ·rw [if_neg c6] at H
    exact absurd H (by simp)
  ·rw [if_neg c5] at H
   exact absurd H (by simp)
 ·rw [if_neg c4] at H
  exact absurd H (by simp)

end Go.Proofs.YtifeiepociopoaaDoor.PFrac
