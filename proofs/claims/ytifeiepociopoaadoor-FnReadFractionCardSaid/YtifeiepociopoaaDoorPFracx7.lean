-- Written for this session by its program hprint.py over the kit's print: functions, and contracts that the walk of the Go code proves.
import Derived.Test.YtifeiepociopoaaDoorPFracx0
import Derived.Test.YtifeiepociopoaaDoorPFracx2
import Derived.Test.YtifeiepociopoaaDoorPFracx6
namespace Go.Proofs.YtifeiepociopoaaDoor.PFrac
open Go.RowKit Go.Proofs.YtifeiepociopoaaDoor.Hand Go.Proofs.YtifeiepociopoaaDoorW.PrintWords Go.Proofs.YtifeiepociopoaaDoorW.PrintLast Go.Proofs.YtifeiepociopoaaDoorW.PrintMore
attribute [local go_sem] max2_int min2_int max_two min_two max_three min_three max_four min_four   -- for this text's walks alone
set_option linter.unusedVariables false
set_option linter.unusedSimpArgs false

/-! ### spec_l20Fraction: function 29 -/
theorem zz7_0_ {P1 Q : Prop} (h1 : P1) (f : P1 → Q := by intro zq1_; repeat (first | (with_reducible first | exact zq1_ | apply KeepBut.set_ | apply keep_drewN | apply keep_drew | apply keep_alloc) | exact zq1_)) : Q := f h1
theorem zz7_1_ {Q : Prop} (f : Q := by (try simp only [List.map_toArray, List.map_cons, List.map_nil]); first | done | rfl | (simp only [List.length_drop, List.length_take]; rfl)) : Q := f
theorem zz7_4_ {P1 P2 Q : Prop} (h1 : P1) (h2 : P2) (f : P1 → P2 → Q := by intro zq1_ zq2_; repeat (first | (with_reducible first | exact zq1_ | apply IsS71.alloc | apply IsS71.drewN | apply IsS71.drew | apply IsS71.set_1 | refine IsS71.far ?_ zq2_ _) | exact zq1_)) : Q := f h1 h2
theorem zz7_5_ {P1 P2 P3 Q : Prop} (h1 : P1) (h2 : P2) (h3 : P3) (f : P1 → P2 → P3 → Q := by intro zq1_ zq2_ zq3_; repeat (first | (with_reducible first | exact zq1_ | apply below_alloc | apply pw_below_drewN | apply below_drew1 | refine below_set ?_ (IsS71.ge zq2_) | refine below_set ?_ zq3_) | exact zq1_)) : Q := f h1 h2 h3
theorem zz7_2_ {P1 Q : Prop} (h1 : P1) (f : P1 → Q := by intro zq1_; (with_reducible repeat (first | refine blk_drewN ?_ _ | refine blk_drew ?_ | refine blk_alloc ?_ _)); exact zq1_) : Q := f h1
theorem zz7_3_ {P1 P2 Q : Prop} (h1 : P1) (h2 : P2) (f : P1 → P2 → Q := by intro zq1_ zq2_; repeat (first | (with_reducible first | exact zq1_ | apply KeepBut.set_ | apply keep_drewN | apply keep_drew | apply keep_alloc | refine keep_far ?_ zq2_ _) | exact zq1_)) : Q := f h1 h2
theorem zz7_6_ {P1 Q : Prop} (h1 : P1) (f : P1 → Q := by intro zq1_; (with_reducible repeat (first | apply Kd.R_alloc | apply Kd.R_drewN | apply Kd.R_drew)); exact zq1_) : Q := f h1
theorem zz7_7_ {Q : Prop} (f : Q := by first | (with_reducible assumption) | assumption) : Q := f
theorem zz7_8_ {P1 P2 Q : Prop} (h1 : P1) (h2 : P2) (f : P1 → P2 → Q := by intro zq1_ zq2_; repeat (first | (with_reducible first | exact zq1_ | apply below_alloc | apply pw_below_drewN | apply below_drew1 | refine below_set ?_ zq2_) | exact zq1_)) : Q := f h1 h2
theorem zz7_10_ {P1 P2 P3 Q : Prop} (h1 : P1) (h2 : P2) (h3 : P3) (f : P1 → P2 → P3 → Q := by intro zq1_ zq2_ zq3_; repeat (first | (with_reducible first | exact zq1_ | apply IsS71.alloc | apply IsS71.drewN | apply IsS71.drew | apply IsS71.set_1 | refine IsS71.far ?_ zq2_ _ | refine IsS71.far ?_ zq3_ _) | exact zq1_)) : Q := f h1 h2 h3
theorem zz7_11_ {P1 P2 P3 P4 Q : Prop} (h1 : P1) (h2 : P2) (h3 : P3) (h4 : P4) (f : P1 → P2 → P3 → P4 → Q := by intro zq1_ zq2_ zq3_ zq4_; repeat (first | (with_reducible first | exact zq1_ | apply below_alloc | apply pw_below_drewN | apply below_drew1 | refine below_set ?_ (IsS71.ge zq2_) | refine below_set ?_ zq3_ | refine below_set ?_ zq4_) | exact zq1_)) : Q := f h1 h2 h3 h4
theorem zz7_9_ {P1 P2 P3 Q : Prop} (h1 : P1) (h2 : P2) (h3 : P3) (f : P1 → P2 → P3 → Q := by intro zq1_ zq2_ zq3_; repeat (first | (with_reducible first | exact zq1_ | apply KeepBut.set_ | apply keep_drewN | apply keep_drew | apply keep_alloc | refine keep_far ?_ zq2_ _ | refine keep_far ?_ zq3_ _) | exact zq1_)) : Q := f h1 h2 h3
def spec_l20Fraction.j0 : Nat → List Int → Int → Int → Int → Option (Int × Int × Int)
 | 0, _, _, _, _ => none
 | k + 1, x1000, x1001, x173000, x173001 => some (x173000, x173001, x1001)
def spec_l20Fraction.f (k : Nat) (s0_0 : List Int) (s0_1 : Int) (a1 : Int) : Option (Int × Int × Int) := (spec_l20Rd_pick.f k s0_0 s0_1 24).bind fun bt143 => ((spec_l20Rd_pick.f k s0_0 bt143.2 256).bind fun bt145 => ((some (([wrap64 (bt143.1 - 12), wrap64 (bt145.1 * 999), 1000000000, (-1000000000)] : List Int) : List Int)).bind fun y147 => ((some (([0, 0, 0, 1, 2, 3] : List Int) : List Int)).bind fun y150 => ((spec_l20Rd_pick.f k s0_0 bt145.2 6).bind fun bt153 => (if 0 ≤ bt153.1 then (if bt153.1 < (y150.length : Int) then (if 0 ≤ (rd y150 bt153.1) then (if (rd y150 bt153.1) < (y147.length : Int) then ((spec_l20Rd_pick.f k s0_0 bt153.2 9).bind fun bt157 => ((some (([2, 4, 10, 100, 1000, 1000000] : List Int) : List Int)).bind fun y159 => ((spec_l20Rd_pick.f k s0_0 bt157.2 6).bind fun bt162 => (if 0 ≤ bt162.1 then (if bt162.1 < (y159.length : Int) then ((some (([1, wrap64 (1 + bt157.1), rd y159 bt162.1, 3] : List Int) : List Int)).bind fun y165 => ((spec_l20Rd_pick.f k s0_0 bt162.2 4).bind fun bt168 => (if 0 ≤ bt168.1 then (if bt168.1 < (y165.length : Int) then ((spec_l2Gcd.f k (rd y147 (rd y150 bt153.1)) (rd y165 bt168.1)).bind fun t171 => (if t171 = 0 then (none) else ((spec_l20Rd_odd.f k s0_0 bt168.2 a1).bind fun bt173 => (if bt173.1 = true then ((some (([(⟨2, 4⟩ : S25), (⟨1, 0⟩ : S25), (⟨1000000001, 1⟩ : S25), (⟨1, 1000001⟩ : S25), (⟨1, (-1)⟩ : S25), (⟨0, 0⟩ : S25)] : List (S25)) : List (S25))).bind fun y175 => ((spec_l20Rd_pick.f k s0_0 bt173.2 6).bind fun bt178 => (if 0 ≤ bt178.1 then (if bt178.1 < (y175.length : Int) then (spec_l20Fraction.j0 k s0_0 bt178.2 ((rd_T25 y175 bt178.1).f0) ((rd_T25 y175 bt178.1).f1)) else (none)) else (none)))) else (spec_l20Fraction.j0 k s0_0 bt173.2 (wrap64 (Int.tdiv (rd y147 (rd y150 bt153.1)) t171)) (wrap64 (Int.tdiv (rd y165 bt168.1) t171))))))) else (none)) else (none)))) else (none)) else (none))))) else (none)) else (none)) else (none)) else (none))))))
theorem spec_l20Fraction.mono_l : ∀ k, (∀ y0 y1 y2 y3, LeO (spec_l20Fraction.j0 k y0 y1 y2 y3) (spec_l20Fraction.j0 (k + 1) y0 y1 y2 y3))
 | 0 => fun _ _ _ _ r h => by simp [spec_l20Fraction.j0] at h
 | k + 1 => by
  have ih0 := spec_l20Fraction.mono_l k
  ·intro y0 y1 y2 y3
   unfold spec_l20Fraction.j0
   repeat' first
   | (with_reducible exact ih0 _ _ _ _)
   | (with_reducible exact spec_l20Rd_odd.mono _ _ _ _)
   | (with_reducible exact spec_l20Rd_pick.mono _ _ _ _)
   | (with_reducible exact spec_l2Gcd.mono _ _ _)
   | (with_reducible exact LeO.refl _)
   | (with_reducible exact LeO.none _)
   | (with_reducible refine LeO.ite ?_ ?_)
   | (with_reducible refine LeO.bind ?_ (fun _ => ?_))
   | exact ih0 _ _ _ _
   | exact spec_l20Rd_odd.mono _ _ _ _
   | exact spec_l20Rd_pick.mono _ _ _ _
   | exact spec_l2Gcd.mono _ _ _
   | exact LeO.none _
   | refine LeO.ite ?_ ?_
   | refine LeO.bind ?_ (fun _ => ?_)
theorem spec_l20Fraction.mono : ∀ a0 a1 a2 k, LeO (spec_l20Fraction.f k a0 a1 a2) (spec_l20Fraction.f (k + 1) a0 a1 a2) := by
 intro a0 a1 a2 k
 have ih0 := spec_l20Fraction.mono_l k
 unfold spec_l20Fraction.f
 repeat' first
   | (with_reducible exact ih0 _ _ _ _)
   | (with_reducible exact spec_l20Rd_odd.mono _ _ _ _)
   | (with_reducible exact spec_l20Rd_pick.mono _ _ _ _)
   | (with_reducible exact spec_l2Gcd.mono _ _ _)
   | (with_reducible exact LeO.refl _)
   | (with_reducible exact LeO.none _)
   | (with_reducible refine LeO.ite ?_ ?_)
   | (with_reducible refine LeO.bind ?_ (fun _ => ?_))
   | exact ih0 _ _ _ _
   | exact spec_l20Rd_odd.mono _ _ _ _
   | exact spec_l20Rd_pick.mono _ _ _ _
   | exact spec_l2Gcd.mono _ _ _
   | exact LeO.none _
   | refine LeO.ite ?_ ?_
   | refine LeO.bind ?_ (fun _ => ?_)
def spec_l20Fraction.T2 : Bool × List (List Nat × List Nat) := (true, [([], []), ([0], [0]), ([1], [1]), ([], []), ([], []), ([4, 1], [4]), ([3, 5], [3, 5]), ([6], [6]), ([2, 7], [2, 7]), ([], []), ([9, 5], [9]), ([8, 10], [8, 10]), ([11], [11]), ([12, 10, 0, 1, 2, 3, 4, 5, 6, 7, 8, 9, 10, 11, 12], [12])])
def spec_l20Fraction.B2 : List Nat := [0, 1, 3, 0, 0, 19, 59, 123, 255, 0, 563, 2047, 4095, 8191]
theorem spec_l20Fraction.tab2 : rtab .any (opsOf Tryd.f29 2) = spec_l20Fraction.T2 := by kernel_rfl
theorem spec_l20Fraction.bits2 : waitsOk spec_l20Fraction.T2.2 spec_l20Fraction.B2 = true := by kernel_rfl
def spec_l20Fraction.T4 : Bool × List (List Nat × List Nat) := (true, [([], []), ([], []), ([0, 1], [0, 1]), ([], []), ([], []), ([3, 4], [3, 4]), ([2, 5], [2, 5]), ([], []), ([7, 6, 0, 1, 2, 3, 4, 5, 6, 7], [6, 7])])
def spec_l20Fraction.B4 : List Nat := [0, 0, 3, 0, 0, 24, 63, 0, 255]
theorem spec_l20Fraction.tab4 : rtab .any (opsOf Tryd.f29 4) = spec_l20Fraction.T4 := by kernel_rfl
theorem spec_l20Fraction.bits4 : waitsOk spec_l20Fraction.T4.2 spec_l20Fraction.B4 = true := by kernel_rfl
set_option maxHeartbeats 8000000 in
set_option maxRecDepth 100000 in
theorem spec_l20Fraction.calls (k : Nat) (g : Nat) (s0_0 : List Int) (s0_1 : Int) (a1 : Int) (r1 : Int) (r2 : Int) (r3 : Int) (w0 w : World) (hI : IsS71 w0 w g s0_0 s0_1) (hB : Below w0.heap.size w0 w) (h : spec_l20Fraction.f k s0_0 s0_1 a1 = some (r1, r2, r3)) :
  Calls Tryd.prog 29 #[.pointer (some ⟨g, 0, none⟩), .int .i64 a1] w fun e w' => e = .returned (.agg #[.int .i64 r1, .int .i64 r2]) ∧ IsS71 w0 w' g s0_0 r3 ∧ Below w0.heap.size w0 w' ∧ KeepBut w w' g none := by
 have hu25 := Tryd.underlying25
 have HI0 := Aside0.mk hI
 have HK := Aside0.mk (KeepBut.refl w g none)
 have HL := Aside0.mk hB.size
 clear hI
 have HW0 := Aside0.mk hB.size
 have HB := Aside0.mk hB
 clear hB
 have H : ((spec_l20Rd_pick.f k s0_0 s0_1 24).bind fun bt143 => ((spec_l20Rd_pick.f k s0_0 bt143.2 256).bind fun bt145 => ((some (([wrap64 (bt143.1 - 12), wrap64 (bt145.1 * 999), 1000000000, (-1000000000)] : List Int) : List Int)).bind fun y147 => ((some (([0, 0, 0, 1, 2, 3] : List Int) : List Int)).bind fun y150 => ((spec_l20Rd_pick.f k s0_0 bt145.2 6).bind fun bt153 => (if 0 ≤ bt153.1 then (if bt153.1 < (y150.length : Int) then (if 0 ≤ (rd y150 bt153.1) then (if (rd y150 bt153.1) < (y147.length : Int) then ((spec_l20Rd_pick.f k s0_0 bt153.2 9).bind fun bt157 => ((some (([2, 4, 10, 100, 1000, 1000000] : List Int) : List Int)).bind fun y159 => ((spec_l20Rd_pick.f k s0_0 bt157.2 6).bind fun bt162 => (if 0 ≤ bt162.1 then (if bt162.1 < (y159.length : Int) then ((some (([1, wrap64 (1 + bt157.1), rd y159 bt162.1, 3] : List Int) : List Int)).bind fun y165 => ((spec_l20Rd_pick.f k s0_0 bt162.2 4).bind fun bt168 => (if 0 ≤ bt168.1 then (if bt168.1 < (y165.length : Int) then ((spec_l2Gcd.f k (rd y147 (rd y150 bt153.1)) (rd y165 bt168.1)).bind fun t171 => (if t171 = 0 then (none) else ((spec_l20Rd_odd.f k s0_0 bt168.2 a1).bind fun bt173 => (if bt173.1 = true then ((some (([(⟨2, 4⟩ : S25), (⟨1, 0⟩ : S25), (⟨1000000001, 1⟩ : S25), (⟨1, 1000001⟩ : S25), (⟨1, (-1)⟩ : S25), (⟨0, 0⟩ : S25)] : List (S25)) : List (S25))).bind fun y175 => ((spec_l20Rd_pick.f k s0_0 bt173.2 6).bind fun bt178 => (if 0 ≤ bt178.1 then (if bt178.1 < (y175.length : Int) then (spec_l20Fraction.j0 k s0_0 bt178.2 ((rd_T25 y175 bt178.1).f0) ((rd_T25 y175 bt178.1).f1)) else (none)) else (none)))) else (spec_l20Fraction.j0 k s0_0 bt173.2 (wrap64 (Int.tdiv (rd y147 (rd y150 bt153.1)) t171)) (wrap64 (Int.tdiv (rd y165 bt168.1) t171))))))) else (none)) else (none)))) else (none)) else (none))))) else (none)) else (none)) else (none)) else (none))))))) = some (r1, r2, r3) := h
 clear h
 replace H := Option.bind_eq_some_iff.mp H
 obtain ⟨⟨t143, t144⟩, A30, H⟩ := H
 try dsimp only at H
 have A3 := Aside0.mk A30
 clear A30
 replace H := Option.bind_eq_some_iff.mp H
 obtain ⟨⟨t145, t146⟩, A40, H⟩ := H
 try dsimp only at H
 have A4 := Aside0.mk A40
 clear A40
 obtain ⟨y147, hy147⟩ : ∃ y_ : List Int, y_ = (([wrap64 (t143 - 12), wrap64 (t145 * 999), 1000000000, (-1000000000)] : List Int)) := ⟨_, rfl⟩
 replace H : ((some (([0, 0, 0, 1, 2, 3] : List Int) : List Int)).bind fun y150 => ((spec_l20Rd_pick.f k s0_0 t146 6).bind fun bt153 => (if 0 ≤ bt153.1 then (if bt153.1 < (y150.length : Int) then (if 0 ≤ (rd y150 bt153.1) then (if (rd y150 bt153.1) < (y147.length : Int) then ((spec_l20Rd_pick.f k s0_0 bt153.2 9).bind fun bt157 => ((some (([2, 4, 10, 100, 1000, 1000000] : List Int) : List Int)).bind fun y159 => ((spec_l20Rd_pick.f k s0_0 bt157.2 6).bind fun bt162 => (if 0 ≤ bt162.1 then (if bt162.1 < (y159.length : Int) then ((some (([1, wrap64 (1 + bt157.1), rd y159 bt162.1, 3] : List Int) : List Int)).bind fun y165 => ((spec_l20Rd_pick.f k s0_0 bt162.2 4).bind fun bt168 => (if 0 ≤ bt168.1 then (if bt168.1 < (y165.length : Int) then ((spec_l2Gcd.f k (rd y147 (rd y150 bt153.1)) (rd y165 bt168.1)).bind fun t171 => (if t171 = 0 then (none) else ((spec_l20Rd_odd.f k s0_0 bt168.2 a1).bind fun bt173 => (if bt173.1 = true then ((some (([(⟨2, 4⟩ : S25), (⟨1, 0⟩ : S25), (⟨1000000001, 1⟩ : S25), (⟨1, 1000001⟩ : S25), (⟨1, (-1)⟩ : S25), (⟨0, 0⟩ : S25)] : List (S25)) : List (S25))).bind fun y175 => ((spec_l20Rd_pick.f k s0_0 bt173.2 6).bind fun bt178 => (if 0 ≤ bt178.1 then (if bt178.1 < (y175.length : Int) then (spec_l20Fraction.j0 k s0_0 bt178.2 ((rd_T25 y175 bt178.1).f0) ((rd_T25 y175 bt178.1).f1)) else (none)) else (none)))) else (spec_l20Fraction.j0 k s0_0 bt173.2 (wrap64 (Int.tdiv (rd y147 (rd y150 bt153.1)) t171)) (wrap64 (Int.tdiv (rd y165 bt168.1) t171))))))) else (none)) else (none)))) else (none)) else (none))))) else (none)) else (none)) else (none)) else (none)))) = some (r1, r2, r3) := by first | (rw [hy147]; with_reducible exact H) | (have H2_ := (Option.bind_some _ _).symm.trans H; rw [hy147]; with_reducible exact H2_) | (have H2_ := (Option.bind_some _ _).symm.trans H; with_reducible exact H2_) | with_reducible exact H | (rw [hy147]; exact H) | exact H
 have Ny147 := Aside0.mk hy147
 clear hy147
 obtain ⟨y150, hy150⟩ : ∃ y_ : List Int, y_ = (([0, 0, 0, 1, 2, 3] : List Int)) := ⟨_, rfl⟩
 replace H : ((spec_l20Rd_pick.f k s0_0 t146 6).bind fun bt153 => (if 0 ≤ bt153.1 then (if bt153.1 < (y150.length : Int) then (if 0 ≤ (rd y150 bt153.1) then (if (rd y150 bt153.1) < (y147.length : Int) then ((spec_l20Rd_pick.f k s0_0 bt153.2 9).bind fun bt157 => ((some (([2, 4, 10, 100, 1000, 1000000] : List Int) : List Int)).bind fun y159 => ((spec_l20Rd_pick.f k s0_0 bt157.2 6).bind fun bt162 => (if 0 ≤ bt162.1 then (if bt162.1 < (y159.length : Int) then ((some (([1, wrap64 (1 + bt157.1), rd y159 bt162.1, 3] : List Int) : List Int)).bind fun y165 => ((spec_l20Rd_pick.f k s0_0 bt162.2 4).bind fun bt168 => (if 0 ≤ bt168.1 then (if bt168.1 < (y165.length : Int) then ((spec_l2Gcd.f k (rd y147 (rd y150 bt153.1)) (rd y165 bt168.1)).bind fun t171 => (if t171 = 0 then (none) else ((spec_l20Rd_odd.f k s0_0 bt168.2 a1).bind fun bt173 => (if bt173.1 = true then ((some (([(⟨2, 4⟩ : S25), (⟨1, 0⟩ : S25), (⟨1000000001, 1⟩ : S25), (⟨1, 1000001⟩ : S25), (⟨1, (-1)⟩ : S25), (⟨0, 0⟩ : S25)] : List (S25)) : List (S25))).bind fun y175 => ((spec_l20Rd_pick.f k s0_0 bt173.2 6).bind fun bt178 => (if 0 ≤ bt178.1 then (if bt178.1 < (y175.length : Int) then (spec_l20Fraction.j0 k s0_0 bt178.2 ((rd_T25 y175 bt178.1).f0) ((rd_T25 y175 bt178.1).f1)) else (none)) else (none)))) else (spec_l20Fraction.j0 k s0_0 bt173.2 (wrap64 (Int.tdiv (rd y147 (rd y150 bt153.1)) t171)) (wrap64 (Int.tdiv (rd y165 bt168.1) t171))))))) else (none)) else (none)))) else (none)) else (none))))) else (none)) else (none)) else (none)) else (none))) = some (r1, r2, r3) := by first | (rw [hy150]; with_reducible exact H) | (have H2_ := (Option.bind_some _ _).symm.trans H; rw [hy150]; with_reducible exact H2_) | (have H2_ := (Option.bind_some _ _).symm.trans H; with_reducible exact H2_) | with_reducible exact H | (rw [hy150]; exact H) | exact H
 have Ny150 := Aside0.mk hy150
 clear hy150
 replace H := Option.bind_eq_some_iff.mp H
 obtain ⟨⟨t153, t154⟩, A50, H⟩ := H
 try dsimp only at H
 have A5 := Aside0.mk A50
 clear A50
 by_cases c6 : 0 ≤ t153
 ·rw [if_pos c6] at H
  have c6b0 : decide (0 ≤ t153) = true := decide_eq_true c6
  clear c6
  by_cases c7 : t153 < (y150.length : Int)
  ·rw [if_pos c7] at H
   have c7b0 : decide (t153 < (y150.length : Int)) = true := decide_eq_true c7
   clear c7
   by_cases c8 : 0 ≤ (rd y150 t153)
   ·rw [if_pos c8] at H
    have c8b0 : decide (0 ≤ (rd y150 t153)) = true := decide_eq_true c8
    clear c8
    by_cases c9 : (rd y150 t153) < (y147.length : Int)
    ·rw [if_pos c9] at H
     have c9b0 : decide ((rd y150 t153) < (y147.length : Int)) = true := decide_eq_true c9
     clear c9
     replace H := Option.bind_eq_some_iff.mp H
     obtain ⟨⟨t157, t158⟩, A100, H⟩ := H
     try dsimp only at H
     have A10 := Aside0.mk A100
     clear A100
     obtain ⟨y159, hy159⟩ : ∃ y_ : List Int, y_ = (([2, 4, 10, 100, 1000, 1000000] : List Int)) := ⟨_, rfl⟩
     replace H : ((spec_l20Rd_pick.f k s0_0 t158 6).bind fun bt162 => (if 0 ≤ bt162.1 then (if bt162.1 < (y159.length : Int) then ((some (([1, wrap64 (1 + t157), rd y159 bt162.1, 3] : List Int) : List Int)).bind fun y165 => ((spec_l20Rd_pick.f k s0_0 bt162.2 4).bind fun bt168 => (if 0 ≤ bt168.1 then (if bt168.1 < (y165.length : Int) then ((spec_l2Gcd.f k (rd y147 (rd y150 t153)) (rd y165 bt168.1)).bind fun t171 => (if t171 = 0 then (none) else ((spec_l20Rd_odd.f k s0_0 bt168.2 a1).bind fun bt173 => (if bt173.1 = true then ((some (([(⟨2, 4⟩ : S25), (⟨1, 0⟩ : S25), (⟨1000000001, 1⟩ : S25), (⟨1, 1000001⟩ : S25), (⟨1, (-1)⟩ : S25), (⟨0, 0⟩ : S25)] : List (S25)) : List (S25))).bind fun y175 => ((spec_l20Rd_pick.f k s0_0 bt173.2 6).bind fun bt178 => (if 0 ≤ bt178.1 then (if bt178.1 < (y175.length : Int) then (spec_l20Fraction.j0 k s0_0 bt178.2 ((rd_T25 y175 bt178.1).f0) ((rd_T25 y175 bt178.1).f1)) else (none)) else (none)))) else (spec_l20Fraction.j0 k s0_0 bt173.2 (wrap64 (Int.tdiv (rd y147 (rd y150 t153)) t171)) (wrap64 (Int.tdiv (rd y165 bt168.1) t171))))))) else (none)) else (none)))) else (none)) else (none))) = some (r1, r2, r3) := by first | (rw [hy159]; with_reducible exact H) | (have H2_ := (Option.bind_some _ _).symm.trans H; rw [hy159]; with_reducible exact H2_) | (have H2_ := (Option.bind_some _ _).symm.trans H; with_reducible exact H2_) | with_reducible exact H | (rw [hy159]; exact H) | exact H
     have Ny159 := Aside0.mk hy159
     clear hy159
     replace H := Option.bind_eq_some_iff.mp H
     obtain ⟨⟨t162, t163⟩, A110, H⟩ := H
     try dsimp only at H
     have A11 := Aside0.mk A110
     clear A110
     by_cases c12 : 0 ≤ t162
     ·rw [if_pos c12] at H
      have c12b0 : decide (0 ≤ t162) = true := decide_eq_true c12
      clear c12
      by_cases c13 : t162 < (y159.length : Int)
      ·rw [if_pos c13] at H
       have c13b0 : decide (t162 < (y159.length : Int)) = true := decide_eq_true c13
       clear c13
       obtain ⟨y165, hy165⟩ : ∃ y_ : List Int, y_ = (([1, wrap64 (1 + t157), rd y159 t162, 3] : List Int)) := ⟨_, rfl⟩
       replace H : ((spec_l20Rd_pick.f k s0_0 t163 4).bind fun bt168 => (if 0 ≤ bt168.1 then (if bt168.1 < (y165.length : Int) then ((spec_l2Gcd.f k (rd y147 (rd y150 t153)) (rd y165 bt168.1)).bind fun t171 => (if t171 = 0 then (none) else ((spec_l20Rd_odd.f k s0_0 bt168.2 a1).bind fun bt173 => (if bt173.1 = true then ((some (([(⟨2, 4⟩ : S25), (⟨1, 0⟩ : S25), (⟨1000000001, 1⟩ : S25), (⟨1, 1000001⟩ : S25), (⟨1, (-1)⟩ : S25), (⟨0, 0⟩ : S25)] : List (S25)) : List (S25))).bind fun y175 => ((spec_l20Rd_pick.f k s0_0 bt173.2 6).bind fun bt178 => (if 0 ≤ bt178.1 then (if bt178.1 < (y175.length : Int) then (spec_l20Fraction.j0 k s0_0 bt178.2 ((rd_T25 y175 bt178.1).f0) ((rd_T25 y175 bt178.1).f1)) else (none)) else (none)))) else (spec_l20Fraction.j0 k s0_0 bt173.2 (wrap64 (Int.tdiv (rd y147 (rd y150 t153)) t171)) (wrap64 (Int.tdiv (rd y165 bt168.1) t171))))))) else (none)) else (none))) = some (r1, r2, r3) := by first | (rw [hy165]; with_reducible exact H) | (have H2_ := (Option.bind_some _ _).symm.trans H; rw [hy165]; with_reducible exact H2_) | (have H2_ := (Option.bind_some _ _).symm.trans H; with_reducible exact H2_) | with_reducible exact H | (rw [hy165]; exact H) | exact H
       have Ny165 := Aside0.mk hy165
       clear hy165
       replace H := Option.bind_eq_some_iff.mp H
       obtain ⟨⟨t168, t169⟩, A140, H⟩ := H
       try dsimp only at H
       have A14 := Aside0.mk A140
       clear A140
       by_cases c15 : 0 ≤ t168
       ·rw [if_pos c15] at H
        have c15b0 : decide (0 ≤ t168) = true := decide_eq_true c15
        clear c15
        by_cases c16 : t168 < (y165.length : Int)
        ·rw [if_pos c16] at H
         have c16b0 : decide (t168 < (y165.length : Int)) = true := decide_eq_true c16
         clear c16
         replace H := Option.bind_eq_some_iff.mp H
         obtain ⟨t171, A170, H⟩ := H
         try dsimp only at H
         have A17 := Aside0.mk A170
         clear A170
         by_cases c18 : t171 = 0
         ·rw [if_pos c18] at H
          exact absurd H (by simp)
         ·rw [if_neg c18] at H
          have c18b0 : (t171 == 0) = false := beq_eq_false_iff_ne.mpr c18
          have c18b1 : (t171 != 0) = true := bne_iff_ne.mpr c18
          replace H := Option.bind_eq_some_iff.mp H
          obtain ⟨⟨t173, t174⟩, A190, H⟩ := H
          try dsimp only at H
          have A19 := Aside0.mk A190
          clear A190
          have HC20 := Aside0.mk H
          clear H
          go_enter Tryd.func29, Tryd.ntmps29
          try go_wp2_with (first | ((with_reducible refine gate_dst (N := 4) rfl ?_); refine box_event ?hg (N := 4) ?hd (cs := #[.int .i64 0, .int .i64 0]) (t := 25) ?hr ?_; (case hd => rfl); (case hg => rfl); (case hr => first | (go_simp; done) | (go_simp; rfl)); intro gb142 hg w21 hbox hb; have n0_ := Aside0.mk (IsS71.below (by repeat (first | (with_reducible first | exact HI0.out | apply IsS71.alloc | apply IsS71.drewN | apply IsS71.drew | apply IsS71.set_1) | exact HI0.out)) hb); have n1_ := Aside0.mk (KeepBut.trans (zz7_0_ HK.out) (KeepBut.of_below hb g none) (.inl rfl)); have n2_ := Aside0.mk (below_step (by repeat (first | (with_reducible first | exact HB.out | apply below_alloc | apply pw_below_drewN | apply below_drew1 | refine below_set ?_ (IsS71.ge HI0.out)) | exact HB.out)) hb); have n3_ := Aside0.mk (hbox); have n4_ := Aside0.mk ((by rw [hg]; exact (keep_size (w := w) (g := g) (row := none) (zz7_0_ HK.out)) : w.heap.size ≤ gb142)); have n5_ := Aside0.mk ((Nat.le_trans HW0.out (by rw [hg]; exact (keep_size (w := w) (g := g) (row := none) (zz7_0_ HK.out)) : w.heap.size ≤ gb142) : w0.heap.size ≤ gb142)); have n6_ := Aside0.mk ((by rw [hg]; exact Nat.ne_of_lt (IsS71.lt (show IsS71 w0 _ g s0_0 s0_1 from by repeat (first | (with_reducible first | exact HI0.out | apply IsS71.alloc | apply IsS71.drewN | apply IsS71.drew | apply IsS71.set_1) | exact HI0.out))) : g ≠ gb142)); have n7_ := Aside0.mk ((by rw [hg]; exact Nat.ne_of_gt (IsS71.lt (show IsS71 w0 _ g s0_0 s0_1 from by repeat (first | (with_reducible first | exact HI0.out | apply IsS71.alloc | apply IsS71.drewN | apply IsS71.drew | apply IsS71.set_1) | exact HI0.out))) : gb142 ≠ g)); clear HI0; clear HK; clear HB; have HI0 := n0_; have HK := n1_; have HB := n2_; have BK142 := n3_; have GW142 := n4_; have GE142 := n5_; have NB0_142 := n6_; have NB142_0 := n7_; clear n0_ n1_ n2_ n3_ n4_ n5_ n6_ n7_; clear hb hbox hg) | ((with_reducible refine gate_callee (f := 45) rfl ?_); refine goesL_ (some 10) rfl rfl Tryd.func45 (by kernel_rfl) rfl #[.pointer (some ⟨g, 0, none⟩), .int .i64 24] rfl (zz7_1_) ?_; (with_reducible refine (spec_l20Rd_pick.calls k g s0_0 s0_1 24 t143 t144 w0 _ ?side1 ?side2 A3.out).mono ?_); (case side1 => exact zz7_4_ HI0.out NB0_142.out); (case side2 => exact zz7_5_ HB.out HI0.out GE142.out); rintro e w22 ⟨rfl, hi, hb, hk⟩; refine ⟨_, rfl, ?_⟩; have n0_ := Aside0.mk (KeepBut.blk hk (g' := gb142) (o := .cells #[.int .i64 0, .int .i64 0] 25 (0, 0)) (zz7_2_ BK142.out) NB142_0.out (by simp)); have n1_ := Aside0.mk (KeepBut.trans (zz7_3_ HK.out GW142.out) hk (.inl rfl)); have n2_ := Aside0.mk (hb); have n3_ := Aside0.mk (hi); clear BK142; clear HK; clear HB; clear HI0; have BK142 := n0_; have HK := n1_; have HB := n2_; have HI0 := n3_; clear n0_ n1_ n2_ n3_; (try clear hb); (try clear hb2); (try clear hk); (try clear hi)) | ((with_reducible refine gate_callee (f := 45) rfl ?_); refine goesL_ (some 13) rfl rfl Tryd.func45 (by kernel_rfl) rfl #[.pointer (some ⟨g, 0, none⟩), .int .i64 256] rfl (zz7_1_) ?_; (with_reducible refine (spec_l20Rd_pick.calls k g s0_0 t144 256 t145 t146 w0 _ ?side1 ?side2 A4.out).mono ?_); (case side1 => exact zz7_4_ HI0.out NB0_142.out); (case side2 => exact zz7_5_ HB.out HI0.out GE142.out); rintro e w23 ⟨rfl, hi, hb, hk⟩; refine ⟨_, rfl, ?_⟩; have n0_ := Aside0.mk (KeepBut.blk hk (g' := gb142) (o := .cells #[.int .i64 0, .int .i64 0] 25 (0, 0)) (zz7_2_ BK142.out) NB142_0.out (by simp)); have n1_ := Aside0.mk (KeepBut.trans (zz7_3_ HK.out GW142.out) hk (.inl rfl)); have n2_ := Aside0.mk (hb); have n3_ := Aside0.mk (hi); clear BK142; clear HK; clear HB; clear HI0; have BK142 := n0_; have HK := n1_; have HB := n2_; have HI0 := n3_; clear n0_ n1_ n2_ n3_; (try clear hb); (try clear hb2); (try clear hk); (try clear hi)) | ((with_reducible refine gate_dst (N := 15) rfl ?_); refine Kd.R_lit (Kd.int .i64) _ 3 ?hg (N := 15) ?hd (xs := ([wrap64 (t143 - 12), wrap64 (t145 * 999), 1000000000, (-1000000000)] : List Int)) (inner := [.int .i64 (wrap64 (t143 - 12)), .int .i64 (wrap64 (t145 * 999)), .int .i64 1000000000, .int .i64 (-1000000000)]) (ok := fun _ => True) (okp := fun _ => True) ?hr ?hp (fun _ hk => hk) trivial (Below.refl _ _) (Nat.le_refl _) (by simp) ?_; (case hd => rfl); (case hg => rfl); (case hr => first | (go_simp; done) | (go_simp; rfl)); (case hp => exact (Reps.one (show Kd.M (Kd.int .i64) _ _ _ (wrap64 (t143 - 12)) [.int .i64 (wrap64 (t143 - 12))] from rfl) (Reps.one (show Kd.M (Kd.int .i64) _ _ _ (wrap64 (t145 * 999)) [.int .i64 (wrap64 (t145 * 999))] from rfl) (Reps.one (show Kd.M (Kd.int .i64) _ _ _ 1000000000 [.int .i64 1000000000] from rfl) (Reps.one (show Kd.M (Kd.int .i64) _ _ _ (-1000000000) [.int .i64 (-1000000000)] from rfl) (Reps.none _ _)))))); intro v148 w24 ho25 hb hg_ hnew_; clear hg_ hnew_; (first | rw [← Ny147.out] at ho25 | (simp only [Int.reduceToNat] at ho25; rw [← Ny147.out] at ho25)); have n0_ := Aside0.mk (Kd.R_lower ho25 (keep_size (w := w) (g := g) (row := none) (zz7_3_ HK.out GW142.out))); have n1_ := Aside0.mk (IsS71.below (zz7_4_ HI0.out NB0_142.out) hb); have n2_ := Aside0.mk (blk_below (g := gb142) (o := .cells #[.int .i64 0, .int .i64 0] 25 (0, 0)) (zz7_2_ BK142.out) hb); have n3_ := Aside0.mk (KeepBut.trans (zz7_3_ HK.out GW142.out) (KeepBut.of_below hb g none) (.inl rfl)); have n4_ := Aside0.mk (below_step (zz7_5_ HB.out HI0.out GE142.out) hb); clear HI0; clear BK142; clear HK; clear HB; have HO149 := n0_; have HI0 := n1_; have BK142 := n2_; have HK := n3_; have HB := n4_; clear n0_ n1_ n2_ n3_ n4_; clear hb ho25) | ((with_reducible refine gate_dst (N := 16) rfl ?_); refine Kd.R_lit (Kd.int .i64) _ 3 ?hg (N := 16) ?hd (xs := ([0, 0, 0, 1, 2, 3] : List Int)) (inner := [.int .i64 0, .int .i64 0, .int .i64 0, .int .i64 1, .int .i64 2, .int .i64 3]) (ok := fun _ => True) (okp := fun _ => True) ?hr ?hp (fun _ hk => hk) trivial (Below.refl _ _) (Nat.le_refl _) (by simp) ?_; (case hd => rfl); (case hg => rfl); (case hr => first | (go_simp; done) | (go_simp; rfl)); (case hp => exact (Reps.one (show Kd.M (Kd.int .i64) _ _ _ 0 [.int .i64 0] from rfl) (Reps.one (show Kd.M (Kd.int .i64) _ _ _ 0 [.int .i64 0] from rfl) (Reps.one (show Kd.M (Kd.int .i64) _ _ _ 0 [.int .i64 0] from rfl) (Reps.one (show Kd.M (Kd.int .i64) _ _ _ 1 [.int .i64 1] from rfl) (Reps.one (show Kd.M (Kd.int .i64) _ _ _ 2 [.int .i64 2] from rfl) (Reps.one (show Kd.M (Kd.int .i64) _ _ _ 3 [.int .i64 3] from rfl) (Reps.none _ _)))))))); intro v151 w26 ho27 hb hg_ hnew_; clear hg_ hnew_; (first | rw [← Ny150.out] at ho27 | (simp only [Int.reduceToNat] at ho27; rw [← Ny150.out] at ho27)); have n0_ := Aside0.mk (Kd.R_elder' (zz7_6_ HO149.out) (Kd.R_base ho27) hb); have n1_ := Aside0.mk (Kd.R_lower (Kd.R_new' ho27 (Kd.R_lt (zz7_6_ HO149.out))) (keep_size (w := w) (g := g) (row := none) (zz7_3_ HK.out GW142.out))); have n2_ := Aside0.mk (IsS71.below (zz7_4_ HI0.out NB0_142.out) hb); have n3_ := Aside0.mk (blk_below (g := gb142) (o := .cells #[.int .i64 0, .int .i64 0] 25 (0, 0)) (zz7_2_ BK142.out) hb); have n4_ := Aside0.mk (KeepBut.trans (zz7_3_ HK.out GW142.out) (KeepBut.of_below hb g none) (.inl rfl)); have n5_ := Aside0.mk (below_step (zz7_5_ HB.out HI0.out GE142.out) hb); clear HO149; clear HI0; clear BK142; clear HK; clear HB; have HO149 := n0_; have HO152 := n1_; have HI0 := n2_; have BK142 := n3_; have HK := n4_; have HB := n5_; clear n0_ n1_ n2_ n3_ n4_ n5_; clear hb ho27) | ((with_reducible refine gate_callee (f := 45) rfl ?_); refine goesL_ (some 18) rfl rfl Tryd.func45 (by kernel_rfl) rfl #[.pointer (some ⟨g, 0, none⟩), .int .i64 6] rfl (zz7_1_) ?_; (with_reducible refine (spec_l20Rd_pick.calls k g s0_0 t146 6 t153 t154 w0 _ ?side1 ?side2 A5.out).mono ?_); (case side1 => exact zz7_4_ HI0.out NB0_142.out); (case side2 => exact zz7_5_ HB.out HI0.out GE142.out); rintro e w28 ⟨rfl, hi, hb, hk⟩; refine ⟨_, rfl, ?_⟩; have n0_ := Aside0.mk (KeepBut.blk hk (g' := gb142) (o := .cells #[.int .i64 0, .int .i64 0] 25 (0, 0)) (zz7_2_ BK142.out) NB142_0.out (by simp)); have n1_ := Aside0.mk (Kd.R_mono (Kd.R_keep (IsS71.apart (show IsS71 w0 _ g s0_0 t146 from by repeat (first | (with_reducible first | exact HI0.out | apply IsS71.alloc | apply IsS71.drewN | apply IsS71.drew | apply IsS71.set_1 | refine IsS71.far ?_ NB0_142.out _) | exact HI0.out)) (zz7_6_ HO149.out) (by decide)) hk (fun _ h => h.2)) (fun _ h => h.1)); have n2_ := Aside0.mk (Kd.R_mono (Kd.R_keep (IsS71.apart (show IsS71 w0 _ g s0_0 t146 from by repeat (first | (with_reducible first | exact HI0.out | apply IsS71.alloc | apply IsS71.drewN | apply IsS71.drew | apply IsS71.set_1 | refine IsS71.far ?_ NB0_142.out _) | exact HI0.out)) (zz7_6_ HO152.out) (by decide)) hk (fun _ h => h.2)) (fun _ h => h.1)); have n3_ := Aside0.mk (KeepBut.trans (zz7_3_ HK.out GW142.out) hk (.inl rfl)); have n4_ := Aside0.mk (hb); have n5_ := Aside0.mk (hi); clear BK142; clear HO149; clear HO152; clear HK; clear HB; clear HI0; have BK142 := n0_; have HO149 := n1_; have HO152 := n2_; have HK := n3_; have HB := n4_; have HI0 := n5_; clear n0_ n1_ n2_ n3_ n4_ n5_; (try clear hb); (try clear hb2); (try clear hk); (try clear hi); obtain ⟨Ao29, co29, eo29⟩ := Kd.R_slice HO152.out; subst eo29; have p155 : 0 ≤ (t153 : Int) := of_decide_eq_true (zz7_7_); have q155 : t153 < (y150.length : Int) := of_decide_eq_true (zz7_7_); obtain ⟨ad155, e155, hx155_0⟩ := Kd.at_int (Kd.R_reads' HO152.out).2.2 t153 p155 q155; cases e155; replace p155 := eq_true p155; replace q155 := eq_true q155; obtain ⟨Ao30, co30, eo30⟩ := Kd.R_slice HO149.out; subst eo30; have p156 : 0 ≤ ((rd y150 t153) : Int) := of_decide_eq_true (zz7_7_); have q156 : (rd y150 t153) < (y147.length : Int) := of_decide_eq_true (zz7_7_); obtain ⟨ad156, e156, hx156_0⟩ := Kd.at_int (Kd.R_reads' HO149.out).2.2 (rd y150 t153) p156 q156; cases e156; replace p156 := eq_true p156; replace q156 := eq_true q156))
          have pi164 : (0 ≤ (t162 : Int)) = True := eq_true (of_decide_eq_true (zz7_7_))
          have qi164 : (t162 < (y159.length : Int)) = True := eq_true (of_decide_eq_true (zz7_7_))
          have pi170 : (0 ≤ (t168 : Int)) = True := eq_true (of_decide_eq_true (zz7_7_))
          have qi170 : (t168 < (y165.length : Int)) = True := eq_true (of_decide_eq_true (zz7_7_))
          have n0_ := Aside0.mk (Kd.R_drew HO149.out)
          have n1_ := Aside0.mk (Kd.R_drew HO152.out)
          have n2_ := Aside0.mk (blk_drew BK142.out)
          have n3_ := Aside0.mk (IsS71.drew HI0.out)
          have n4_ := Aside0.mk (keep_drew HK.out)
          have n5_ := Aside0.mk (below_drew1 HB.out)
          clear HO149
          clear HO152
          clear BK142
          clear HI0
          clear HK
          clear HB
          have HO149 := n0_
          have HO152 := n1_
          have BK142 := n2_
          have HI0 := n3_
          have HK := n4_
          have HB := n5_
          clear n0_ n1_ n2_ n3_ n4_ n5_
          refine start_ (n := 14) (S := fun w' => True) (ds := []) #[false, false, false, false, false, false, false, false, false, false, false, false, false, false] (by kernel_rfl) rfl rfl trivial (fun hHeld => ?_); refine with_tabW spec_l20Fraction.tab2 spec_l20Fraction.bits2 (fun HT_ HW_ => ?_)
          generalize w28.drew = w31 at HO149 HO152 BK142 HI0 HK HB hHeld ⊢
          refine pure_ (i := 0) (N := some 23) (v := ?_) (a' := ?_) #[true, false, false, false, false, false, false, false, false, false, false, false, false, false] rfl rfl (any_of HT_.out (by kernel_rfl)) (fun _ _ _ h => h) (Or.inl ⟨by rfl, ?_⟩) ?_ ?_
          rotate_left
          ·intro w'
           go_simp
           with_reducible rfl
          rotate_left
          ·simp only [Act.put, List.setIfInBounds_toArray, List.set_cons_zero, List.set_cons_succ, i64_w, i32_w]
           rfl
          refine pure_ (i := 4) (N := some 27) (v := ?_) (a' := ?_) #[true, false, false, false, true, false, false, false, false, false, false, false, false, false] rfl rfl (any_of HT_.out (by kernel_rfl)) (fun _ _ _ h => h) (Or.inl ⟨by rfl, ?_⟩) ?_ ?_
          rotate_left
          ·intro w'
           go_simp
           with_reducible rfl
          rotate_left
          ·simp only [Act.put, List.setIfInBounds_toArray, List.set_cons_zero, List.set_cons_succ, i64_w, i32_w]
           rfl
          refine pure_ (i := 9) (N := some 32) (v := ?_) (a' := ?_) #[true, false, false, false, true, false, false, false, false, true, false, false, false, false] rfl rfl (any_of HT_.out (by kernel_rfl)) (fun _ _ _ h => h) (Or.inl ⟨by rfl, ?_⟩) ?_ ?_
          rotate_left
          ·intro w'
           go_simp
           with_reducible rfl
          rotate_left
          ·simp only [Act.put, List.setIfInBounds_toArray, List.set_cons_zero, List.set_cons_succ, i64_w, i32_w]
           rfl
          refine inv_at [1, 2, 3, 5, 6, 7, 8, 10, 11, 12, 13] (fun a0_ b a w' => ∃ (v160 : Value) (adz_v160 : Addr) (v166 : Value) (adz_v166 : Addr) (m6_ : Value) (m11_ : Value), a = putSel a0_ b [(1, 24, .int .i64 t157), (2, 25, .int .i64 (wrap64 (1 + t157))), (3, 26, v160), (5, 28, .int .i64 t162), (6, 29, m6_), (7, 30, .int .i64 (rd y159 t162)), (8, 31, v166), (10, 33, .int .i64 t168), (11, 34, m11_), (12, 35, .int .i64 (rd y165 t168)), (13, 6, .int .i64 (rd y165 t168))] ∧ (Kd.R (Kd.int .i64) 3 w' w.heap.size (fun k_ => True ∧ some k_ ≠ (.slice (some ad155) y150.length co29 : Value).ownBlock) (.slice (some ad156) y147.length co30) y147) ∧ (Kd.R (Kd.int .i64) 3 w' w.heap.size (fun k_ => True ∧ some k_ ≠ (.slice (some ad156) y147.length co30 : Value).ownBlock) (.slice (some ad155) y150.length co29) y150) ∧ (w'.heap[gb142]? = some (.cells #[.int .i64 0, .int .i64 0] 25 (0, 0))) ∧ (b 1 = false → IsS71 w0 w' g s0_0 t154) ∧ (KeepBut w w' g none) ∧ (Below w0.heap.size w0 w') ∧ (b 1 = true → b 5 = false → IsS71 w0 w' g s0_0 t158) ∧ (b 3 = true → Kd.R (Kd.int .i64) 3 w' w.heap.size (fun k_ => some k_ ≠ (.slice (some ad156) y147.length co30 : Value).ownBlock ∧ some k_ ≠ (.slice (some ad155) y150.length co29 : Value).ownBlock) v160 y159) ∧ (b 3 = true → ∃ c_, (v160 : Value) = .slice (some adz_v160) y159.length c_) ∧ (b 5 = true → b 10 = false → IsS71 w0 w' g s0_0 t163) ∧ (b 8 = true → Kd.R (Kd.int .i64) 3 w' w.heap.size (fun k_ => some k_ ≠ (.slice (some ad156) y147.length co30 : Value).ownBlock ∧ some k_ ≠ (.slice (some ad155) y150.length co29 : Value).ownBlock) v166 y165) ∧ (b 8 = true → ∃ c_, (v166 : Value) = .slice (some adz_v166) y165.length c_) ∧ (b 10 = true → IsS71 w0 w' g s0_0 t169) ∧ (b 6 = true → (m6_ : Value) = .pointer (some (adz_v160.add (t162).toNat))) ∧ (b 11 = true → (m11_ : Value) = .pointer (some (adz_v166.add (t168).toNat)))) HT_.out HW_.out (by kernel_rfl) (by kernel_rfl) ?_ ?_ ?_
          ·exact ⟨.bool false, ⟨0, 0, none⟩, .bool false, ⟨0, 0, none⟩, .bool false, .bool false, by simp only [putSel, Bool.false_eq_true, if_false], HO149.out, HO152.out, BK142.out, fun _ => HI0.out, HK.out, HB.out, fun h_ => absurd h_ (by decide), fun h_ => absurd h_ (by decide), fun h_ => absurd h_ (by decide), fun h_ => absurd h_ (by decide), fun h_ => absurd h_ (by decide), fun h_ => absurd h_ (by decide), fun h_ => absurd h_ (by decide), fun h_ => absurd h_ (by decide), fun h_ => absurd h_ (by decide)⟩
          ·skip
           clear BK142 HB HI0 HK HO149 HO152
           refine steps_cons ?_ ?_
           ·rintro b a w' ⟨v160, adz_v160, v166, adz_v166, m6_, m11_, ha, Q_HO149, Q_HO152, Q_BK142, Q_HI0, Q_HK, Q_HB, Q_HI0_e1, Q_HO161, Q_HA_HO161, Q_HI0_e5, Q_HO167, Q_HA_HO167, Q_HI0_e10, Q_X6_, Q_X11_⟩ hb_ hon hoff
            refine ⟨_, rfl, fun K hK => ?_⟩
            have e23 : a.tmps[23]? = some (.pointer (some ⟨g, 0, none⟩)) := by rw [ha]; exact (putSel_off rfl).trans rfl
            replace ha := Aside0.mk ha
            have HO149 := Aside0.mk Q_HO149
            have HO152 := Aside0.mk Q_HO152
            have BK142 := Aside0.mk Q_BK142
            have HI0 := Aside0.mk (Q_HI0 hb_)
            have HK := Aside0.mk Q_HK
            have HB := Aside0.mk Q_HB
            refine goes_ Tryd.func45 (by kernel_rfl) rfl #[.pointer (some ⟨g, 0, none⟩), .int .i64 9] (by rfl) rfl rfl (by first | (simp only [List.map_toArray, List.map_cons, List.map_nil, Act.eval, Array.getD_eq_getD_getElem?, Option.getD_some, e23]; done) | (simp only [List.map_toArray, List.map_cons, List.map_nil, Act.eval, Array.getD_eq_getD_getElem?, Option.getD_some, e23]; rfl)) ?_
            with_reducible refine (spec_l20Rd_pick.calls k g s0_0 t154 9 t157 t158 w0 _ ?side1 ?side2 A10.out).mono ?_
            (case side1 => exact zz7_4_ HI0.out NB0_142.out)
            (case side2 => exact zz7_5_ HB.out HI0.out GE142.out)
            rintro e w32 ⟨rfl, hi, hb, hk⟩
            refine ⟨_, rfl, ?_⟩
            have n0_ := Aside0.mk (KeepBut.blk hk (g' := gb142) (o := .cells #[.int .i64 0, .int .i64 0] 25 (0, 0)) (zz7_2_ BK142.out) NB142_0.out (by simp))
            have n1_ := Aside0.mk (Kd.R_mono (Kd.R_keep (IsS71.apart (show IsS71 w0 _ g s0_0 t154 from by repeat (first | (with_reducible first | exact HI0.out | apply IsS71.alloc | apply IsS71.drewN | apply IsS71.drew | apply IsS71.set_1 | refine IsS71.far ?_ NB0_142.out _) | exact HI0.out)) (zz7_6_ HO149.out) (by decide)) hk (fun _ h => h.2)) (fun _ h => h.1))
            have n2_ := Aside0.mk (Kd.R_mono (Kd.R_keep (IsS71.apart (show IsS71 w0 _ g s0_0 t154 from by repeat (first | (with_reducible first | exact HI0.out | apply IsS71.alloc | apply IsS71.drewN | apply IsS71.drew | apply IsS71.set_1 | refine IsS71.far ?_ NB0_142.out _) | exact HI0.out)) (zz7_6_ HO152.out) (by decide)) hk (fun _ h => h.2)) (fun _ h => h.1))
            have n3_ := Aside0.mk (KeepBut.trans (zz7_3_ HK.out GW142.out) hk (.inl rfl))
            have n4_ := Aside0.mk (hb)
            have n5_ := Aside0.mk (hi)
            have z_HO161 := fun (h0_ : b 3 = true) => (show Kd.R (Kd.int .i64) 3 w32 w.heap.size (fun k_ => some k_ ≠ (.slice (some ad156) y147.length co30 : Value).ownBlock ∧ some k_ ≠ (.slice (some ad155) y150.length co29 : Value).ownBlock) v160 y159 from by first | exact (Kd.R_mono (Kd.R_keep (IsS71.apart (show IsS71 w0 _ g s0_0 t154 from by repeat (first | (with_reducible first | exact HI0.out | apply IsS71.alloc | apply IsS71.drewN | apply IsS71.drew | apply IsS71.set_1 | refine IsS71.far ?_ NB0_142.out _) | exact HI0.out)) (by (with_reducible repeat (first | apply Kd.R_alloc | apply Kd.R_drewN | apply Kd.R_drew)); exact (Q_HO161 h0_)) (by decide)) hk (fun _ h => h.2)) (fun _ h => h.1)) | exact Kd.R_mono (Kd.R_mono (Kd.R_keep (IsS71.apart (show IsS71 w0 _ g s0_0 t154 from by repeat (first | (with_reducible first | exact HI0.out | apply IsS71.alloc | apply IsS71.drewN | apply IsS71.drew | apply IsS71.set_1 | refine IsS71.far ?_ NB0_142.out _) | exact HI0.out)) (by (with_reducible repeat (first | apply Kd.R_alloc | apply Kd.R_drewN | apply Kd.R_drew)); exact (Q_HO161 h0_)) (by decide)) hk (fun _ h => h.2)) (fun _ h => h.1)) (fun _ h_ => by first | trivial | exact h_ | exact h_.1))
            clear BK142
            clear HO149
            clear HO152
            clear HK
            clear HB
            clear HI0
            have BK142 := n0_
            have HO149 := n1_
            have HO152 := n2_
            have HK := n3_
            have HB := n4_
            have HI0 := n5_
            clear n0_ n1_ n2_ n3_ n4_ n5_
            (try clear hb)
            (try clear hb2)
            (try clear hk)
            (try clear hi)
            refine hK.out _ _ ⟨v160, adz_v160, v166, adz_v166, m6_, m11_, (by rw [ha.out]; exact putSel_upk 0 hb_ rfl rfl rfl), (by (with_reducible repeat (first | apply Kd.R_alloc | apply Kd.R_drewN | apply Kd.R_drew)); exact Kd.R_mono HO149.out (fun _ hk => by first | grind | (simp only [true_and, and_assoc] at hk ⊢; grind))), (by (with_reducible repeat (first | apply Kd.R_alloc | apply Kd.R_drewN | apply Kd.R_drew)); exact Kd.R_mono HO152.out (fun _ hk => by first | grind | (simp only [true_and, and_assoc] at hk ⊢; grind))), (zz7_2_ BK142.out), fun h0_ => absurd ((up_self b 1).symm.trans h0_) (by decide), (zz7_3_ HK.out GW142.out), (zz7_5_ HB.out HI0.out GE142.out), fun _ _ => (zz7_4_ HI0.out NB0_142.out), z_HO161, Q_HA_HO161, fun h0_ _ => absurd ((hoff 5 (by kernel_rfl)).symm.trans h0_) (by decide), fun h0_ => absurd ((hoff 8 (by kernel_rfl)).symm.trans h0_) (by decide), fun h0_ => absurd ((hoff 8 (by kernel_rfl)).symm.trans h0_) (by decide), fun h0_ => absurd ((hoff 10 (by kernel_rfl)).symm.trans h0_) (by decide), fun h0_ => absurd ((hoff 6 (by kernel_rfl)).symm.trans h0_) (by decide), fun h0_ => absurd ((hoff 11 (by kernel_rfl)).symm.trans h0_) (by decide)⟩
           refine steps_cons ?_ ?_
           ·rintro b a w' ⟨v160, adz_v160, v166, adz_v166, m6_, m11_, ha, Q_HO149, Q_HO152, Q_BK142, Q_HI0, Q_HK, Q_HB, Q_HI0_e1, Q_HO161, Q_HA_HO161, Q_HI0_e5, Q_HO167, Q_HA_HO167, Q_HI0_e10, Q_X6_, Q_X11_⟩ hb_ hon hoff
            refine ⟨_, rfl, fun K hK => ?_⟩
            have e24 : a.tmps[24]? = some (.int .i64 t157) := by rw [ha]; exact putSel_on (e := (1, 24, .int .i64 t157)) 0 rfl rfl (hon 1 (by kernel_rfl)) rfl
            replace ha := Aside0.mk ha
            have HO149 := Aside0.mk Q_HO149
            have HO152 := Aside0.mk Q_HO152
            have BK142 := Aside0.mk Q_BK142
            have HK := Aside0.mk Q_HK
            have HB := Aside0.mk Q_HB
            refine value_ (w1 := w') (v := .int .i64 (wrap64 (1 + t157))) (by rfl) rfl ?_ ?_
            ·go_simp
             (try simp only [i64_w])
             try rfl
            refine hK.out _ _ ⟨v160, adz_v160, v166, adz_v166, m6_, m11_, (by rw [ha.out]; exact putSel_upk 1 hb_ rfl rfl rfl), Q_HO149, Q_HO152, Q_BK142, fun h0_ => absurd ((hon 1 (by kernel_rfl)).symm.trans h0_) (by decide), Q_HK, Q_HB, Q_HI0_e1, Q_HO161, Q_HA_HO161, Q_HI0_e5, fun h0_ => absurd ((hoff 8 (by kernel_rfl)).symm.trans h0_) (by decide), fun h0_ => absurd ((hoff 8 (by kernel_rfl)).symm.trans h0_) (by decide), Q_HI0_e10, Q_X6_, fun h0_ => absurd ((hoff 11 (by kernel_rfl)).symm.trans h0_) (by decide)⟩
           refine steps_cons ?_ ?_
           ·rintro b a w' ⟨v160, adz_v160, v166, adz_v166, m6_, m11_, ha, Q_HO149, Q_HO152, Q_BK142, Q_HI0, Q_HK, Q_HB, Q_HI0_e1, Q_HO161, Q_HA_HO161, Q_HI0_e5, Q_HO167, Q_HA_HO167, Q_HI0_e10, Q_X6_, Q_X11_⟩ hb_ hon hoff
            refine ⟨_, rfl, fun K hK => ?_⟩
            replace ha := Aside0.mk ha
            have HO149 := Aside0.mk Q_HO149
            have HO152 := Aside0.mk Q_HO152
            have BK142 := Aside0.mk Q_BK142
            have HK := Aside0.mk Q_HK
            have HB := Aside0.mk Q_HB
            refine Kd.R_lit_step (Kd.int .i64) _ 3 ?hg (N := 26) ?hd (xs := ([2, 4, 10, 100, 1000, 1000000] : List Int)) (inner := [.int .i64 2, .int .i64 4, .int .i64 10, .int .i64 100, .int .i64 1000, .int .i64 1000000]) (ok := fun _ => True) (okp := fun _ => True) ?hr ?hp (fun _ hk => hk) trivial (Below.refl _ _) (Nat.le_refl _) (by simp) ?_; (case hd => rfl); (case hg => rfl); (case hr => first | (go_simp; done) | (go_simp; rfl)); (case hp => exact (Reps.one (show Kd.M (Kd.int .i64) _ _ _ 2 [.int .i64 2] from rfl) (Reps.one (show Kd.M (Kd.int .i64) _ _ _ 4 [.int .i64 4] from rfl) (Reps.one (show Kd.M (Kd.int .i64) _ _ _ 10 [.int .i64 10] from rfl) (Reps.one (show Kd.M (Kd.int .i64) _ _ _ 100 [.int .i64 100] from rfl) (Reps.one (show Kd.M (Kd.int .i64) _ _ _ 1000 [.int .i64 1000] from rfl) (Reps.one (show Kd.M (Kd.int .i64) _ _ _ 1000000 [.int .i64 1000000] from rfl) (Reps.none _ _))))))))
            intro v160 w32 ho33 hb hg_ hnew_
            clear hg_ hnew_
            (first | rw [← Ny159.out] at ho33 | (simp only [Int.reduceToNat] at ho33; rw [← Ny159.out] at ho33))
            have n0_ := Aside0.mk (Kd.R_elder' (zz7_6_ HO149.out) (Kd.R_base ho33) hb)
            have n1_ := Aside0.mk (Kd.R_elder' (zz7_6_ HO152.out) (Kd.R_base ho33) hb)
            have n2_ := Aside0.mk (Kd.R_lower (Kd.R_new' (Kd.R_new' ho33 (Kd.R_lt (zz7_6_ HO149.out))) (Kd.R_lt (zz7_6_ HO152.out))) (keep_size (w := w) (g := g) (row := none) (zz7_3_ HK.out GW142.out)))
            have n4_ := Aside0.mk (blk_below (g := gb142) (o := .cells #[.int .i64 0, .int .i64 0] 25 (0, 0)) (zz7_2_ BK142.out) hb)
            have n5_ := Aside0.mk (KeepBut.trans (zz7_3_ HK.out GW142.out) (KeepBut.of_below hb g none) (.inl rfl))
            have n6_ := Aside0.mk (below_step (zz7_8_ HB.out GE142.out) hb)
            have z_HI0 := fun (h0_ : b 1 = false) => (show IsS71 w0 w32 g s0_0 t154 from by first | exact (IsS71.below (by repeat (first | (with_reducible first | exact (Q_HI0 h0_) | apply IsS71.alloc | apply IsS71.drewN | apply IsS71.drew | apply IsS71.set_1 | refine IsS71.far ?_ NB0_142.out _) | exact (Q_HI0 h0_))) hb))
            have z_HI0_e1 := fun (h0_ : b 1 = true) (h1_ : b 5 = false) => (show IsS71 w0 w32 g s0_0 t158 from by first | exact (IsS71.below (by repeat (first | (with_reducible first | exact (Q_HI0_e1 h0_ h1_) | apply IsS71.alloc | apply IsS71.drewN | apply IsS71.drew | apply IsS71.set_1 | refine IsS71.far ?_ NB0_142.out _) | exact (Q_HI0_e1 h0_ h1_))) hb))
            have z_HI0_e5 := fun (h0_ : b 5 = true) (h1_ : b 10 = false) => (show IsS71 w0 w32 g s0_0 t163 from by first | exact (IsS71.below (by repeat (first | (with_reducible first | exact (Q_HI0_e5 h0_ h1_) | apply IsS71.alloc | apply IsS71.drewN | apply IsS71.drew | apply IsS71.set_1 | refine IsS71.far ?_ NB0_142.out _) | exact (Q_HI0_e5 h0_ h1_))) hb))
            have z_HI0_e10 := fun (h0_ : b 10 = true) => (show IsS71 w0 w32 g s0_0 t169 from by first | exact (IsS71.below (by repeat (first | (with_reducible first | exact (Q_HI0_e10 h0_) | apply IsS71.alloc | apply IsS71.drewN | apply IsS71.drew | apply IsS71.set_1 | refine IsS71.far ?_ NB0_142.out _) | exact (Q_HI0_e10 h0_))) hb))
            clear HO149
            clear HO152
            clear BK142
            clear HK
            clear HB
            have HO149 := n0_
            have HO152 := n1_
            have HO161 := n2_
            have BK142 := n4_
            have HK := n5_
            have HB := n6_
            clear n0_ n1_ n2_ n4_ n5_ n6_
            clear hb ho33
            obtain ⟨Ao34, co34, eo34⟩ := Kd.R_slice HO161.out
            subst eo34
            obtain ⟨ado34, fo34, _⟩ := Kd.at_int (Kd.R_reads' HO161.out).2.2 0 (by decide) (by rw [Ny159.out]; simp)
            cases fo34
            refine hK.out _ _ ⟨.slice (some ado34) y159.length co34, ado34, v166, adz_v166, m6_, m11_, (by rw [ha.out]; exact putSel_upk 2 hb_ rfl rfl rfl), (by (with_reducible repeat (first | apply Kd.R_alloc | apply Kd.R_drewN | apply Kd.R_drew)); exact Kd.R_mono HO149.out (fun _ hk => by first | grind | (simp only [true_and, and_assoc] at hk ⊢; grind))), (by (with_reducible repeat (first | apply Kd.R_alloc | apply Kd.R_drewN | apply Kd.R_drew)); exact Kd.R_mono HO152.out (fun _ hk => by first | grind | (simp only [true_and, and_assoc] at hk ⊢; grind))), (zz7_2_ BK142.out), z_HI0, (zz7_3_ HK.out GW142.out), (zz7_8_ HB.out GE142.out), z_HI0_e1, fun _ => (by (with_reducible repeat (first | apply Kd.R_alloc | apply Kd.R_drewN | apply Kd.R_drew)); exact Kd.R_mono HO161.out (fun _ hk => by first | grind | (simp only [true_and, and_assoc] at hk ⊢; grind))), fun _ => ⟨_, rfl⟩, z_HI0_e5, fun h0_ => absurd ((hoff 8 (by kernel_rfl)).symm.trans h0_) (by decide), fun h0_ => absurd ((hoff 8 (by kernel_rfl)).symm.trans h0_) (by decide), z_HI0_e10, fun h0_ => absurd ((hoff 6 (by kernel_rfl)).symm.trans h0_) (by decide), fun h0_ => absurd ((hoff 11 (by kernel_rfl)).symm.trans h0_) (by decide)⟩
           refine steps_cons ?_ ?_
           ·rintro b a w' ⟨v160, adz_v160, v166, adz_v166, m6_, m11_, ha, Q_HO149, Q_HO152, Q_BK142, Q_HI0, Q_HK, Q_HB, Q_HI0_e1, Q_HO161, Q_HA_HO161, Q_HI0_e5, Q_HO167, Q_HA_HO167, Q_HI0_e10, Q_X6_, Q_X11_⟩ hb_ hon hoff
            refine ⟨_, rfl, fun K hK => ?_⟩
            have e27 : a.tmps[27]? = some (.pointer (some ⟨g, 0, none⟩)) := by rw [ha]; exact (putSel_off rfl).trans rfl
            replace ha := Aside0.mk ha
            have HO149 := Aside0.mk Q_HO149
            have HO152 := Aside0.mk Q_HO152
            have BK142 := Aside0.mk Q_BK142
            have HK := Aside0.mk Q_HK
            have HB := Aside0.mk Q_HB
            have HI0 := Aside0.mk (Q_HI0_e1 (hon 1 (by kernel_rfl)) hb_)
            refine goes_ Tryd.func45 (by kernel_rfl) rfl #[.pointer (some ⟨g, 0, none⟩), .int .i64 6] (by rfl) rfl rfl (by first | (simp only [List.map_toArray, List.map_cons, List.map_nil, Act.eval, Array.getD_eq_getD_getElem?, Option.getD_some, e27]; done) | (simp only [List.map_toArray, List.map_cons, List.map_nil, Act.eval, Array.getD_eq_getD_getElem?, Option.getD_some, e27]; rfl)) ?_
            with_reducible refine (spec_l20Rd_pick.calls k g s0_0 t158 6 t162 t163 w0 _ ?side1 ?side2 A11.out).mono ?_
            (case side1 => exact zz7_4_ HI0.out NB0_142.out)
            (case side2 => exact zz7_5_ HB.out HI0.out GE142.out)
            rintro e w34 ⟨rfl, hi, hb, hk⟩
            refine ⟨_, rfl, ?_⟩
            have n0_ := Aside0.mk (KeepBut.blk hk (g' := gb142) (o := .cells #[.int .i64 0, .int .i64 0] 25 (0, 0)) (zz7_2_ BK142.out) NB142_0.out (by simp))
            have n1_ := Aside0.mk (Kd.R_mono (Kd.R_keep (IsS71.apart (show IsS71 w0 _ g s0_0 t158 from by repeat (first | (with_reducible first | exact HI0.out | apply IsS71.alloc | apply IsS71.drewN | apply IsS71.drew | apply IsS71.set_1 | refine IsS71.far ?_ NB0_142.out _) | exact HI0.out)) (zz7_6_ HO149.out) (by decide)) hk (fun _ h => h.2)) (fun _ h => h.1))
            have n2_ := Aside0.mk (Kd.R_mono (Kd.R_keep (IsS71.apart (show IsS71 w0 _ g s0_0 t158 from by repeat (first | (with_reducible first | exact HI0.out | apply IsS71.alloc | apply IsS71.drewN | apply IsS71.drew | apply IsS71.set_1 | refine IsS71.far ?_ NB0_142.out _) | exact HI0.out)) (zz7_6_ HO152.out) (by decide)) hk (fun _ h => h.2)) (fun _ h => h.1))
            have n3_ := Aside0.mk (KeepBut.trans (zz7_3_ HK.out GW142.out) hk (.inl rfl))
            have n4_ := Aside0.mk (hb)
            have n5_ := Aside0.mk (hi)
            have z_HO161 := fun (h0_ : b 3 = true) => (show Kd.R (Kd.int .i64) 3 w34 w.heap.size (fun k_ => some k_ ≠ (.slice (some ad156) y147.length co30 : Value).ownBlock ∧ some k_ ≠ (.slice (some ad155) y150.length co29 : Value).ownBlock) v160 y159 from by first | exact (Kd.R_mono (Kd.R_keep (IsS71.apart (show IsS71 w0 _ g s0_0 t158 from by repeat (first | (with_reducible first | exact HI0.out | apply IsS71.alloc | apply IsS71.drewN | apply IsS71.drew | apply IsS71.set_1 | refine IsS71.far ?_ NB0_142.out _) | exact HI0.out)) (by (with_reducible repeat (first | apply Kd.R_alloc | apply Kd.R_drewN | apply Kd.R_drew)); exact (Q_HO161 h0_)) (by decide)) hk (fun _ h => h.2)) (fun _ h => h.1)) | exact Kd.R_mono (Kd.R_mono (Kd.R_keep (IsS71.apart (show IsS71 w0 _ g s0_0 t158 from by repeat (first | (with_reducible first | exact HI0.out | apply IsS71.alloc | apply IsS71.drewN | apply IsS71.drew | apply IsS71.set_1 | refine IsS71.far ?_ NB0_142.out _) | exact HI0.out)) (by (with_reducible repeat (first | apply Kd.R_alloc | apply Kd.R_drewN | apply Kd.R_drew)); exact (Q_HO161 h0_)) (by decide)) hk (fun _ h => h.2)) (fun _ h => h.1)) (fun _ h_ => by first | trivial | exact h_ | exact h_.1))
            clear BK142
            clear HO149
            clear HO152
            clear HK
            clear HB
            clear HI0
            have BK142 := n0_
            have HO149 := n1_
            have HO152 := n2_
            have HK := n3_
            have HB := n4_
            have HI0 := n5_
            clear n0_ n1_ n2_ n3_ n4_ n5_
            (try clear hb)
            (try clear hb2)
            (try clear hk)
            (try clear hi)
            refine hK.out _ _ ⟨v160, adz_v160, v166, adz_v166, m6_, m11_, (by rw [ha.out]; exact putSel_upk 3 hb_ rfl rfl rfl), (zz7_6_ HO149.out), (zz7_6_ HO152.out), (zz7_2_ BK142.out), fun h0_ => absurd ((hon 1 (by kernel_rfl)).symm.trans h0_) (by decide), (zz7_3_ HK.out GW142.out), (zz7_5_ HB.out HI0.out GE142.out), fun _ h1_ => absurd ((up_self b 5).symm.trans h1_) (by decide), z_HO161, Q_HA_HO161, fun _ _ => (zz7_4_ HI0.out NB0_142.out), fun h0_ => absurd ((hoff 8 (by kernel_rfl)).symm.trans h0_) (by decide), fun h0_ => absurd ((hoff 8 (by kernel_rfl)).symm.trans h0_) (by decide), fun h0_ => absurd ((hoff 10 (by kernel_rfl)).symm.trans h0_) (by decide), fun h0_ => absurd ((hoff 6 (by kernel_rfl)).symm.trans h0_) (by decide), fun h0_ => absurd ((hoff 11 (by kernel_rfl)).symm.trans h0_) (by decide)⟩
           refine steps_cons ?_ ?_
           ·rintro b a w' ⟨v160, adz_v160, v166, adz_v166, m6_, m11_, ha, Q_HO149, Q_HO152, Q_BK142, Q_HI0, Q_HK, Q_HB, Q_HI0_e1, Q_HO161, Q_HA_HO161, Q_HI0_e5, Q_HO167, Q_HA_HO167, Q_HI0_e10, Q_X6_, Q_X11_⟩ hb_ hon hoff
            refine ⟨_, rfl, fun K hK => ?_⟩
            have e26 : a.tmps[26]? = some (v160) := by rw [ha]; exact putSel_on (e := (3, 26, v160)) 2 rfl rfl (hon 3 (by kernel_rfl)) rfl
            have e28 : a.tmps[28]? = some (.int .i64 t162) := by rw [ha]; exact putSel_on (e := (5, 28, .int .i64 t162)) 3 rfl rfl (hon 5 (by kernel_rfl)) rfl
            replace ha := Aside0.mk ha
            have HO149 := Aside0.mk Q_HO149
            have HO152 := Aside0.mk Q_HO152
            have BK142 := Aside0.mk Q_BK142
            have HK := Aside0.mk Q_HK
            have HB := Aside0.mk Q_HB
            have HO161 := Aside0.mk (Q_HO161 (hon 3 (by kernel_rfl)))
            have HA_HO161 := Aside0.mk (Q_HA_HO161 (hon 3 (by kernel_rfl)))
            obtain ⟨c_, hv_⟩ := HA_HO161.out
            rw [hv_] at e26
            refine value_ (w1 := w') (v := .pointer (some (adz_v160.add (t162).toNat))) (by rfl) rfl ?_ ?_
            ·go_simp
             (try simp only [i64_w])
             try rfl
            refine hK.out _ _ ⟨v160, adz_v160, v166, adz_v166, (.pointer (some (adz_v160.add (t162).toNat))), m11_, (by rw [ha.out]; exact putSel_upk 4 hb_ rfl rfl rfl), Q_HO149, Q_HO152, Q_BK142, fun h0_ => absurd ((hon 1 (by kernel_rfl)).symm.trans h0_) (by decide), Q_HK, Q_HB, fun _ h1_ => absurd ((hon 5 (by kernel_rfl)).symm.trans h1_) (by decide), Q_HO161, Q_HA_HO161, Q_HI0_e5, fun h0_ => absurd ((hoff 8 (by kernel_rfl)).symm.trans h0_) (by decide), fun h0_ => absurd ((hoff 8 (by kernel_rfl)).symm.trans h0_) (by decide), Q_HI0_e10, fun _ => rfl, fun h0_ => absurd ((hoff 11 (by kernel_rfl)).symm.trans h0_) (by decide)⟩
           refine steps_cons ?_ ?_
           ·rintro b a w' ⟨v160, adz_v160, v166, adz_v166, m6_, m11_, ha, Q_HO149, Q_HO152, Q_BK142, Q_HI0, Q_HK, Q_HB, Q_HI0_e1, Q_HO161, Q_HA_HO161, Q_HI0_e5, Q_HO167, Q_HA_HO167, Q_HI0_e10, Q_X6_, Q_X11_⟩ hb_ hon hoff
            refine ⟨_, rfl, fun K hK => ?_⟩
            have e29 : a.tmps[29]? = some (m6_) := by rw [ha]; exact putSel_on (e := (6, 29, m6_)) 4 rfl rfl (hon 6 (by kernel_rfl)) rfl
            rw [Q_X6_ (hon 6 (by kernel_rfl))] at e29
            replace ha := Aside0.mk ha
            have HO149 := Aside0.mk Q_HO149
            have HO152 := Aside0.mk Q_HO152
            have BK142 := Aside0.mk Q_BK142
            have HK := Aside0.mk Q_HK
            have HB := Aside0.mk Q_HB
            have HO161 := Aside0.mk (Q_HO161 (hon 3 (by kernel_rfl)))
            have HA_HO161 := Aside0.mk (Q_HA_HO161 (hon 3 (by kernel_rfl)))
            obtain ⟨c_, hv_⟩ := HA_HO161.out
            have hF_ := HO161.out
            rw [hv_] at hF_
            obtain ⟨ad_, ea_, hx_⟩ := Kd.at_int (Kd.R_reads' hF_).2.2 t162 (of_eq_true pi164) (of_eq_true qi164)
            cases ea_
            refine value_ (w1 := w') (v := .int .i64 (rd y159 t162)) (by rfl) rfl ?_ ?_
            ·go_simp
             (try simp only [i64_w])
             try rfl
            refine hK.out _ _ ⟨v160, adz_v160, v166, adz_v166, m6_, m11_, (by rw [ha.out]; exact putSel_upk 5 hb_ rfl rfl rfl), Q_HO149, Q_HO152, Q_BK142, fun h0_ => absurd ((hon 1 (by kernel_rfl)).symm.trans h0_) (by decide), Q_HK, Q_HB, fun _ h1_ => absurd ((hon 5 (by kernel_rfl)).symm.trans h1_) (by decide), Q_HO161, Q_HA_HO161, Q_HI0_e5, fun h0_ => absurd ((hoff 8 (by kernel_rfl)).symm.trans h0_) (by decide), fun h0_ => absurd ((hoff 8 (by kernel_rfl)).symm.trans h0_) (by decide), Q_HI0_e10, Q_X6_, fun h0_ => absurd ((hoff 11 (by kernel_rfl)).symm.trans h0_) (by decide)⟩
           refine steps_cons ?_ ?_
           ·rintro b a w' ⟨v160, adz_v160, v166, adz_v166, m6_, m11_, ha, Q_HO149, Q_HO152, Q_BK142, Q_HI0, Q_HK, Q_HB, Q_HI0_e1, Q_HO161, Q_HA_HO161, Q_HI0_e5, Q_HO167, Q_HA_HO167, Q_HI0_e10, Q_X6_, Q_X11_⟩ hb_ hon hoff
            refine ⟨_, rfl, fun K hK => ?_⟩
            have e25 : a.tmps[25]? = some (.int .i64 (wrap64 (1 + t157))) := by rw [ha]; exact putSel_on (e := (2, 25, .int .i64 (wrap64 (1 + t157)))) 1 rfl rfl (hon 2 (by kernel_rfl)) rfl
            have e30 : a.tmps[30]? = some (.int .i64 (rd y159 t162)) := by rw [ha]; exact putSel_on (e := (7, 30, .int .i64 (rd y159 t162))) 5 rfl rfl (hon 7 (by kernel_rfl)) rfl
            replace ha := Aside0.mk ha
            have HO149 := Aside0.mk Q_HO149
            have HO152 := Aside0.mk Q_HO152
            have BK142 := Aside0.mk Q_BK142
            have HK := Aside0.mk Q_HK
            have HB := Aside0.mk Q_HB
            have HO161 := Aside0.mk (Q_HO161 (hon 3 (by kernel_rfl)))
            have HA_HO161 := Aside0.mk (Q_HA_HO161 (hon 3 (by kernel_rfl)))
            obtain ⟨co38, eo38⟩ := HA_HO161.out
            clear HA_HO161
            subst eo38
            refine Kd.R_lit_step (Kd.int .i64) _ 3 ?hg (N := 31) ?hd (xs := ([1, wrap64 (1 + t157), rd y159 t162, 3] : List Int)) (inner := [.int .i64 1, .int .i64 (wrap64 (1 + t157)), .int .i64 (rd y159 t162), .int .i64 3]) (ok := fun _ => True) (okp := fun _ => True) ?hr ?hp (fun _ hk => hk) trivial (Below.refl _ _) (Nat.le_refl _) (by simp) ?_; (case hd => rfl); (case hg => rfl); (case hr => first | (go_simp; done) | (go_simp; rfl)); (case hp => exact (Reps.one (show Kd.M (Kd.int .i64) _ _ _ 1 [.int .i64 1] from rfl) (Reps.one (show Kd.M (Kd.int .i64) _ _ _ (wrap64 (1 + t157)) [.int .i64 (wrap64 (1 + t157))] from rfl) (Reps.one (show Kd.M (Kd.int .i64) _ _ _ (rd y159 t162) [.int .i64 (rd y159 t162)] from rfl) (Reps.one (show Kd.M (Kd.int .i64) _ _ _ 3 [.int .i64 3] from rfl) (Reps.none _ _))))))
            intro v166 w39 ho40 hb hg_ hnew_
            clear hg_ hnew_
            (first | rw [← Ny165.out] at ho40 | (simp only [Int.reduceToNat] at ho40; rw [← Ny165.out] at ho40))
            have n0_ := Aside0.mk (Kd.R_elder' (zz7_6_ HO149.out) (Kd.R_base ho40) hb)
            have n1_ := Aside0.mk (Kd.R_elder' (zz7_6_ HO152.out) (Kd.R_base ho40) hb)
            have n2_ := Aside0.mk (Kd.R_elder' (zz7_6_ HO161.out) (Kd.R_base ho40) hb)
            have n3_ := Aside0.mk (Kd.R_lower (Kd.R_new' (Kd.R_new' (Kd.R_new' ho40 (Kd.R_lt (zz7_6_ HO149.out))) (Kd.R_lt (zz7_6_ HO152.out))) (Kd.R_lt (zz7_6_ HO161.out))) (keep_size (w := w) (g := g) (row := none) (zz7_3_ HK.out GW142.out)))
            have n5_ := Aside0.mk (blk_below (g := gb142) (o := .cells #[.int .i64 0, .int .i64 0] 25 (0, 0)) (zz7_2_ BK142.out) hb)
            have n6_ := Aside0.mk (KeepBut.trans (zz7_3_ HK.out GW142.out) (KeepBut.of_below hb g none) (.inl rfl))
            have n7_ := Aside0.mk (below_step (zz7_8_ HB.out GE142.out) hb)
            have z_HI0_e5 := fun (h0_ : b 5 = true) (h1_ : b 10 = false) => (show IsS71 w0 w39 g s0_0 t163 from by first | exact (IsS71.below (by repeat (first | (with_reducible first | exact (Q_HI0_e5 h0_ h1_) | apply IsS71.alloc | apply IsS71.drewN | apply IsS71.drew | apply IsS71.set_1 | refine IsS71.far ?_ NB0_142.out _) | exact (Q_HI0_e5 h0_ h1_))) hb))
            have z_HI0_e10 := fun (h0_ : b 10 = true) => (show IsS71 w0 w39 g s0_0 t169 from by first | exact (IsS71.below (by repeat (first | (with_reducible first | exact (Q_HI0_e10 h0_) | apply IsS71.alloc | apply IsS71.drewN | apply IsS71.drew | apply IsS71.set_1 | refine IsS71.far ?_ NB0_142.out _) | exact (Q_HI0_e10 h0_))) hb))
            clear HO149
            clear HO152
            clear HO161
            clear BK142
            clear HK
            clear HB
            have HO149 := n0_
            have HO152 := n1_
            have HO161 := n2_
            have HO167 := n3_
            have BK142 := n5_
            have HK := n6_
            have HB := n7_
            clear n0_ n1_ n2_ n3_ n5_ n6_ n7_
            clear hb ho40
            obtain ⟨Ao41, co41, eo41⟩ := Kd.R_slice HO167.out
            subst eo41
            obtain ⟨ado41, fo41, _⟩ := Kd.at_int (Kd.R_reads' HO167.out).2.2 0 (by decide) (by rw [Ny165.out]; simp)
            cases fo41
            refine hK.out _ _ ⟨.slice (some adz_v160) y159.length co38, adz_v160, .slice (some ado41) y165.length co41, ado41, m6_, m11_, (by rw [ha.out]; exact putSel_upk 6 hb_ rfl rfl rfl), (by (with_reducible repeat (first | apply Kd.R_alloc | apply Kd.R_drewN | apply Kd.R_drew)); exact Kd.R_mono HO149.out (fun _ hk => by first | grind | (simp only [true_and, and_assoc] at hk ⊢; grind))), (by (with_reducible repeat (first | apply Kd.R_alloc | apply Kd.R_drewN | apply Kd.R_drew)); exact Kd.R_mono HO152.out (fun _ hk => by first | grind | (simp only [true_and, and_assoc] at hk ⊢; grind))), (zz7_2_ BK142.out), fun h0_ => absurd ((hon 1 (by kernel_rfl)).symm.trans h0_) (by decide), (zz7_3_ HK.out GW142.out), (zz7_8_ HB.out GE142.out), fun _ h1_ => absurd ((hon 5 (by kernel_rfl)).symm.trans h1_) (by decide), fun _ => (by (with_reducible repeat (first | apply Kd.R_alloc | apply Kd.R_drewN | apply Kd.R_drew)); exact Kd.R_mono HO161.out (fun _ hk => by first | grind | (simp only [true_and, and_assoc] at hk ⊢; grind))), fun _ => ⟨_, rfl⟩, z_HI0_e5, fun _ => (by (with_reducible repeat (first | apply Kd.R_alloc | apply Kd.R_drewN | apply Kd.R_drew)); exact Kd.R_mono HO167.out (fun _ hk => by first | grind | (simp only [true_and, and_assoc] at hk ⊢; grind))), fun _ => ⟨_, rfl⟩, z_HI0_e10, Q_X6_, fun h0_ => absurd ((hoff 11 (by kernel_rfl)).symm.trans h0_) (by decide)⟩
           refine steps_cons ?_ ?_
           ·rintro b a w' ⟨v160, adz_v160, v166, adz_v166, m6_, m11_, ha, Q_HO149, Q_HO152, Q_BK142, Q_HI0, Q_HK, Q_HB, Q_HI0_e1, Q_HO161, Q_HA_HO161, Q_HI0_e5, Q_HO167, Q_HA_HO167, Q_HI0_e10, Q_X6_, Q_X11_⟩ hb_ hon hoff
            refine ⟨_, rfl, fun K hK => ?_⟩
            have e32 : a.tmps[32]? = some (.pointer (some ⟨g, 0, none⟩)) := by rw [ha]; exact (putSel_off rfl).trans rfl
            replace ha := Aside0.mk ha
            have HO149 := Aside0.mk Q_HO149
            have HO152 := Aside0.mk Q_HO152
            have BK142 := Aside0.mk Q_BK142
            have HK := Aside0.mk Q_HK
            have HB := Aside0.mk Q_HB
            have HI0 := Aside0.mk (Q_HI0_e5 (hon 5 (by kernel_rfl)) hb_)
            refine goes_ Tryd.func45 (by kernel_rfl) rfl #[.pointer (some ⟨g, 0, none⟩), .int .i64 4] (by rfl) rfl rfl (by first | (simp only [List.map_toArray, List.map_cons, List.map_nil, Act.eval, Array.getD_eq_getD_getElem?, Option.getD_some, e32]; done) | (simp only [List.map_toArray, List.map_cons, List.map_nil, Act.eval, Array.getD_eq_getD_getElem?, Option.getD_some, e32]; rfl)) ?_
            with_reducible refine (spec_l20Rd_pick.calls k g s0_0 t163 4 t168 t169 w0 _ ?side1 ?side2 A14.out).mono ?_
            (case side1 => exact zz7_4_ HI0.out NB0_142.out)
            (case side2 => exact zz7_5_ HB.out HI0.out GE142.out)
            rintro e w35 ⟨rfl, hi, hb, hk⟩
            refine ⟨_, rfl, ?_⟩
            have n0_ := Aside0.mk (KeepBut.blk hk (g' := gb142) (o := .cells #[.int .i64 0, .int .i64 0] 25 (0, 0)) (zz7_2_ BK142.out) NB142_0.out (by simp))
            have n1_ := Aside0.mk (Kd.R_mono (Kd.R_keep (IsS71.apart (show IsS71 w0 _ g s0_0 t163 from by repeat (first | (with_reducible first | exact HI0.out | apply IsS71.alloc | apply IsS71.drewN | apply IsS71.drew | apply IsS71.set_1 | refine IsS71.far ?_ NB0_142.out _) | exact HI0.out)) (zz7_6_ HO149.out) (by decide)) hk (fun _ h => h.2)) (fun _ h => h.1))
            have n2_ := Aside0.mk (Kd.R_mono (Kd.R_keep (IsS71.apart (show IsS71 w0 _ g s0_0 t163 from by repeat (first | (with_reducible first | exact HI0.out | apply IsS71.alloc | apply IsS71.drewN | apply IsS71.drew | apply IsS71.set_1 | refine IsS71.far ?_ NB0_142.out _) | exact HI0.out)) (zz7_6_ HO152.out) (by decide)) hk (fun _ h => h.2)) (fun _ h => h.1))
            have n3_ := Aside0.mk (KeepBut.trans (zz7_3_ HK.out GW142.out) hk (.inl rfl))
            have n4_ := Aside0.mk (hb)
            have n5_ := Aside0.mk (hi)
            have z_HO161 := fun (h0_ : b 3 = true) => (show Kd.R (Kd.int .i64) 3 w35 w.heap.size (fun k_ => some k_ ≠ (.slice (some ad156) y147.length co30 : Value).ownBlock ∧ some k_ ≠ (.slice (some ad155) y150.length co29 : Value).ownBlock) v160 y159 from by first | exact (Kd.R_mono (Kd.R_keep (IsS71.apart (show IsS71 w0 _ g s0_0 t163 from by repeat (first | (with_reducible first | exact HI0.out | apply IsS71.alloc | apply IsS71.drewN | apply IsS71.drew | apply IsS71.set_1 | refine IsS71.far ?_ NB0_142.out _) | exact HI0.out)) (by (with_reducible repeat (first | apply Kd.R_alloc | apply Kd.R_drewN | apply Kd.R_drew)); exact (Q_HO161 h0_)) (by decide)) hk (fun _ h => h.2)) (fun _ h => h.1)) | exact Kd.R_mono (Kd.R_mono (Kd.R_keep (IsS71.apart (show IsS71 w0 _ g s0_0 t163 from by repeat (first | (with_reducible first | exact HI0.out | apply IsS71.alloc | apply IsS71.drewN | apply IsS71.drew | apply IsS71.set_1 | refine IsS71.far ?_ NB0_142.out _) | exact HI0.out)) (by (with_reducible repeat (first | apply Kd.R_alloc | apply Kd.R_drewN | apply Kd.R_drew)); exact (Q_HO161 h0_)) (by decide)) hk (fun _ h => h.2)) (fun _ h => h.1)) (fun _ h_ => by first | trivial | exact h_ | exact h_.1))
            have z_HO167 := fun (h0_ : b 8 = true) => (show Kd.R (Kd.int .i64) 3 w35 w.heap.size (fun k_ => some k_ ≠ (.slice (some ad156) y147.length co30 : Value).ownBlock ∧ some k_ ≠ (.slice (some ad155) y150.length co29 : Value).ownBlock) v166 y165 from by first | exact (Kd.R_mono (Kd.R_keep (IsS71.apart (show IsS71 w0 _ g s0_0 t163 from by repeat (first | (with_reducible first | exact HI0.out | apply IsS71.alloc | apply IsS71.drewN | apply IsS71.drew | apply IsS71.set_1 | refine IsS71.far ?_ NB0_142.out _) | exact HI0.out)) (by (with_reducible repeat (first | apply Kd.R_alloc | apply Kd.R_drewN | apply Kd.R_drew)); exact (Q_HO167 h0_)) (by decide)) hk (fun _ h => h.2)) (fun _ h => h.1)) | exact Kd.R_mono (Kd.R_mono (Kd.R_keep (IsS71.apart (show IsS71 w0 _ g s0_0 t163 from by repeat (first | (with_reducible first | exact HI0.out | apply IsS71.alloc | apply IsS71.drewN | apply IsS71.drew | apply IsS71.set_1 | refine IsS71.far ?_ NB0_142.out _) | exact HI0.out)) (by (with_reducible repeat (first | apply Kd.R_alloc | apply Kd.R_drewN | apply Kd.R_drew)); exact (Q_HO167 h0_)) (by decide)) hk (fun _ h => h.2)) (fun _ h => h.1)) (fun _ h_ => by first | trivial | exact h_ | exact h_.1))
            clear BK142
            clear HO149
            clear HO152
            clear HK
            clear HB
            clear HI0
            have BK142 := n0_
            have HO149 := n1_
            have HO152 := n2_
            have HK := n3_
            have HB := n4_
            have HI0 := n5_
            clear n0_ n1_ n2_ n3_ n4_ n5_
            (try clear hb)
            (try clear hb2)
            (try clear hk)
            (try clear hi)
            refine hK.out _ _ ⟨v160, adz_v160, v166, adz_v166, m6_, m11_, (by rw [ha.out]; exact putSel_upk 7 hb_ rfl rfl rfl), (zz7_6_ HO149.out), (zz7_6_ HO152.out), (zz7_2_ BK142.out), fun h0_ => absurd ((hon 1 (by kernel_rfl)).symm.trans h0_) (by decide), (zz7_3_ HK.out GW142.out), (zz7_5_ HB.out HI0.out GE142.out), fun _ h1_ => absurd ((hon 5 (by kernel_rfl)).symm.trans h1_) (by decide), z_HO161, Q_HA_HO161, fun _ h1_ => absurd ((up_self b 10).symm.trans h1_) (by decide), z_HO167, Q_HA_HO167, fun _ => (zz7_4_ HI0.out NB0_142.out), Q_X6_, fun h0_ => absurd ((hoff 11 (by kernel_rfl)).symm.trans h0_) (by decide)⟩
           refine steps_cons ?_ ?_
           ·rintro b a w' ⟨v160, adz_v160, v166, adz_v166, m6_, m11_, ha, Q_HO149, Q_HO152, Q_BK142, Q_HI0, Q_HK, Q_HB, Q_HI0_e1, Q_HO161, Q_HA_HO161, Q_HI0_e5, Q_HO167, Q_HA_HO167, Q_HI0_e10, Q_X6_, Q_X11_⟩ hb_ hon hoff
            refine ⟨_, rfl, fun K hK => ?_⟩
            have e31 : a.tmps[31]? = some (v166) := by rw [ha]; exact putSel_on (e := (8, 31, v166)) 6 rfl rfl (hon 8 (by kernel_rfl)) rfl
            have e33 : a.tmps[33]? = some (.int .i64 t168) := by rw [ha]; exact putSel_on (e := (10, 33, .int .i64 t168)) 7 rfl rfl (hon 10 (by kernel_rfl)) rfl
            replace ha := Aside0.mk ha
            have HO149 := Aside0.mk Q_HO149
            have HO152 := Aside0.mk Q_HO152
            have BK142 := Aside0.mk Q_BK142
            have HK := Aside0.mk Q_HK
            have HB := Aside0.mk Q_HB
            have HO161 := Aside0.mk (Q_HO161 (hon 3 (by kernel_rfl)))
            have HA_HO161 := Aside0.mk (Q_HA_HO161 (hon 3 (by kernel_rfl)))
            have HO167 := Aside0.mk (Q_HO167 (hon 8 (by kernel_rfl)))
            have HA_HO167 := Aside0.mk (Q_HA_HO167 (hon 8 (by kernel_rfl)))
            have HI0 := Aside0.mk (Q_HI0_e10 (hon 10 (by kernel_rfl)))
            obtain ⟨c_, hv_⟩ := HA_HO167.out
            rw [hv_] at e31
            refine value_ (w1 := w') (v := .pointer (some (adz_v166.add (t168).toNat))) (by rfl) rfl ?_ ?_
            ·go_simp
             (try simp only [i64_w])
             try rfl
            refine hK.out _ _ ⟨v160, adz_v160, v166, adz_v166, m6_, (.pointer (some (adz_v166.add (t168).toNat))), (by rw [ha.out]; exact putSel_upk 8 hb_ rfl rfl rfl), Q_HO149, Q_HO152, Q_BK142, fun h0_ => absurd ((hon 1 (by kernel_rfl)).symm.trans h0_) (by decide), Q_HK, Q_HB, fun _ h1_ => absurd ((hon 5 (by kernel_rfl)).symm.trans h1_) (by decide), Q_HO161, Q_HA_HO161, fun _ h1_ => absurd ((hon 10 (by kernel_rfl)).symm.trans h1_) (by decide), Q_HO167, Q_HA_HO167, Q_HI0_e10, Q_X6_, fun _ => rfl⟩
           refine steps_cons ?_ ?_
           ·rintro b a w' ⟨v160, adz_v160, v166, adz_v166, m6_, m11_, ha, Q_HO149, Q_HO152, Q_BK142, Q_HI0, Q_HK, Q_HB, Q_HI0_e1, Q_HO161, Q_HA_HO161, Q_HI0_e5, Q_HO167, Q_HA_HO167, Q_HI0_e10, Q_X6_, Q_X11_⟩ hb_ hon hoff
            refine ⟨_, rfl, fun K hK => ?_⟩
            have e34 : a.tmps[34]? = some (m11_) := by rw [ha]; exact putSel_on (e := (11, 34, m11_)) 8 rfl rfl (hon 11 (by kernel_rfl)) rfl
            rw [Q_X11_ (hon 11 (by kernel_rfl))] at e34
            replace ha := Aside0.mk ha
            have HO149 := Aside0.mk Q_HO149
            have HO152 := Aside0.mk Q_HO152
            have BK142 := Aside0.mk Q_BK142
            have HK := Aside0.mk Q_HK
            have HB := Aside0.mk Q_HB
            have HO161 := Aside0.mk (Q_HO161 (hon 3 (by kernel_rfl)))
            have HA_HO161 := Aside0.mk (Q_HA_HO161 (hon 3 (by kernel_rfl)))
            have HO167 := Aside0.mk (Q_HO167 (hon 8 (by kernel_rfl)))
            have HA_HO167 := Aside0.mk (Q_HA_HO167 (hon 8 (by kernel_rfl)))
            have HI0 := Aside0.mk (Q_HI0_e10 (hon 10 (by kernel_rfl)))
            obtain ⟨c_, hv_⟩ := HA_HO167.out
            have hF_ := HO167.out
            rw [hv_] at hF_
            obtain ⟨ad_, ea_, hx_⟩ := Kd.at_int (Kd.R_reads' hF_).2.2 t168 (of_eq_true pi170) (of_eq_true qi170)
            cases ea_
            refine value_ (w1 := w') (v := .int .i64 (rd y165 t168)) (by rfl) rfl ?_ ?_
            ·go_simp
             (try simp only [i64_w])
             try rfl
            refine hK.out _ _ ⟨v160, adz_v160, v166, adz_v166, m6_, m11_, (by rw [ha.out]; exact putSel_upk 9 hb_ rfl rfl rfl), Q_HO149, Q_HO152, Q_BK142, fun h0_ => absurd ((hon 1 (by kernel_rfl)).symm.trans h0_) (by decide), Q_HK, Q_HB, fun _ h1_ => absurd ((hon 5 (by kernel_rfl)).symm.trans h1_) (by decide), Q_HO161, Q_HA_HO161, fun _ h1_ => absurd ((hon 10 (by kernel_rfl)).symm.trans h1_) (by decide), Q_HO167, Q_HA_HO167, Q_HI0_e10, Q_X6_, Q_X11_⟩
           refine steps_cons ?_ ?_
           ·rintro b a w' ⟨v160, adz_v160, v166, adz_v166, m6_, m11_, ha, Q_HO149, Q_HO152, Q_BK142, Q_HI0, Q_HK, Q_HB, Q_HI0_e1, Q_HO161, Q_HA_HO161, Q_HI0_e5, Q_HO167, Q_HA_HO167, Q_HI0_e10, Q_X6_, Q_X11_⟩ hb_ hon hoff
            refine ⟨_, rfl, fun K hK => ?_⟩
            have e35 : a.tmps[35]? = some (.int .i64 (rd y165 t168)) := by rw [ha]; exact putSel_on (e := (12, 35, .int .i64 (rd y165 t168))) 9 rfl rfl (hon 12 (by kernel_rfl)) rfl
            replace ha := Aside0.mk ha
            have HO149 := Aside0.mk Q_HO149
            have HO152 := Aside0.mk Q_HO152
            have BK142 := Aside0.mk Q_BK142
            have HK := Aside0.mk Q_HK
            have HB := Aside0.mk Q_HB
            have HO161 := Aside0.mk (Q_HO161 (hon 3 (by kernel_rfl)))
            have HA_HO161 := Aside0.mk (Q_HA_HO161 (hon 3 (by kernel_rfl)))
            have HO167 := Aside0.mk (Q_HO167 (hon 8 (by kernel_rfl)))
            have HA_HO167 := Aside0.mk (Q_HA_HO167 (hon 8 (by kernel_rfl)))
            have HI0 := Aside0.mk (Q_HI0_e10 (hon 10 (by kernel_rfl)))
            refine value_ (w1 := w') (v := .int .i64 (rd y165 t168)) (by rfl) rfl ?_ ?_
            ·go_simp
             (try simp only [i64_w])
             try rfl
            refine hK.out _ _ ⟨v160, adz_v160, v166, adz_v166, m6_, m11_, (by rw [ha.out]; exact putSel_upk 10 hb_ rfl rfl rfl), Q_HO149, Q_HO152, Q_BK142, fun h0_ => absurd ((hon 1 (by kernel_rfl)).symm.trans h0_) (by decide), Q_HK, Q_HB, fun _ h1_ => absurd ((hon 5 (by kernel_rfl)).symm.trans h1_) (by decide), Q_HO161, Q_HA_HO161, fun _ h1_ => absurd ((hon 10 (by kernel_rfl)).symm.trans h1_) (by decide), Q_HO167, Q_HA_HO167, Q_HI0_e10, Q_X6_, Q_X11_⟩
           exact steps_nil
          rintro b a w41 hall ⟨v160, adz_v160, v166, adz_v166, m6_, m11_, ha, Q_HO149, Q_HO152, Q_BK142, Q_HI0, Q_HK, Q_HB, Q_HI0_e1, Q_HO161, Q_HA_HO161, Q_HI0_e5, Q_HO167, Q_HA_HO167, Q_HI0_e10, Q_X6_, Q_X11_⟩
          clear BK142 HB HI0 HK HO149 HO152
          have hb1_ := hall 1 (by kernel_rfl)
          have hb2_ := hall 2 (by kernel_rfl)
          have hb3_ := hall 3 (by kernel_rfl)
          have hb5_ := hall 5 (by kernel_rfl)
          have hb6_ := hall 6 (by kernel_rfl)
          have hb7_ := hall 7 (by kernel_rfl)
          have hb8_ := hall 8 (by kernel_rfl)
          have hb10_ := hall 10 (by kernel_rfl)
          have hb11_ := hall 11 (by kernel_rfl)
          have hb12_ := hall 12 (by kernel_rfl)
          have hb13_ := hall 13 (by kernel_rfl)
          subst ha
          obtain rfl := Q_X6_ hb6_
          obtain rfl := Q_X11_ hb11_
          simp only [putSel, hb1_, hb2_, hb3_, hb5_, hb6_, hb7_, hb8_, hb10_, hb11_, hb12_, hb13_, if_true, Act.put, List.setIfInBounds_toArray, List.set_cons_zero, List.set_cons_succ]
          have HO149 := Aside0.mk Q_HO149
          clear Q_HO149
          have HO152 := Aside0.mk Q_HO152
          clear Q_HO152
          have BK142 := Aside0.mk Q_BK142
          clear Q_BK142
          clear Q_HI0
          have HK := Aside0.mk Q_HK
          clear Q_HK
          have HB := Aside0.mk Q_HB
          clear Q_HB
          clear Q_HI0_e1
          have HO161 := Aside0.mk (Q_HO161 hb3_)
          clear Q_HO161
          have HA_HO161 := Aside0.mk (Q_HA_HO161 hb3_)
          clear Q_HA_HO161
          clear Q_HI0_e5
          have HO167 := Aside0.mk (Q_HO167 hb8_)
          clear Q_HO167
          have HA_HO167 := Aside0.mk (Q_HA_HO167 hb8_)
          clear Q_HA_HO167
          have HI0 := Aside0.mk (Q_HI0_e10 hb10_)
          clear Q_HI0_e10
          clear hall hb1_ hb2_ hb3_ hb5_ hb6_ hb7_ hb8_ hb10_ hb11_ hb12_ hb13_
          obtain ⟨co42, eo42⟩ := HA_HO161.out
          clear HA_HO161
          subst eo42
          obtain ⟨co43, eo43⟩ := HA_HO167.out
          clear HA_HO167
          subst eo43
          try go_wp2_with (first | ((with_reducible refine gate_callee (f := 32) rfl ?_); refine goesL_ (some 38) rfl rfl Tryd.func32 (by kernel_rfl) rfl #[.int .i64 (rd y147 (rd y150 t153)), .int .i64 (rd y165 t168)] rfl (zz7_1_) ?_; (with_reducible refine (spec_l2Gcd.calls k (rd y147 (rd y150 t153)) (rd y165 t168) t171 _ A17.out).mono ?_); rintro e w44 ⟨rfl, hb⟩; refine ⟨_, rfl, ?_⟩; have n0_ := Aside0.mk (Kd.R_below (zz7_6_ HO149.out) hb); have n1_ := Aside0.mk (Kd.R_below (zz7_6_ HO152.out) hb); have n2_ := Aside0.mk (Kd.R_below (zz7_6_ HO161.out) hb); have n3_ := Aside0.mk (Kd.R_below (zz7_6_ HO167.out) hb); have n4_ := Aside0.mk (IsS71.below (zz7_4_ HI0.out NB0_142.out) hb); have n5_ := Aside0.mk (blk_below (g := gb142) (o := .cells #[.int .i64 0, .int .i64 0] 25 (0, 0)) (zz7_2_ BK142.out) hb); have n6_ := Aside0.mk (KeepBut.trans (zz7_3_ HK.out GW142.out) (KeepBut.of_below hb g none) (.inl rfl)); have n7_ := Aside0.mk (below_step (zz7_5_ HB.out HI0.out GE142.out) hb); clear HO149; clear HO152; clear HO161; clear HO167; clear HI0; clear BK142; clear HK; clear HB; have HO149 := n0_; have HO152 := n1_; have HO161 := n2_; have HO167 := n3_; have HI0 := n4_; have BK142 := n5_; have HK := n6_; have HB := n7_; clear n0_ n1_ n2_ n3_ n4_ n5_ n6_ n7_; (try clear hb); (try clear hb2); (try clear hk); (try clear hi)))
          have n0_ := Aside0.mk (Kd.R_drew HO149.out)
          have n1_ := Aside0.mk (Kd.R_drew HO152.out)
          have n2_ := Aside0.mk (Kd.R_drew HO161.out)
          have n3_ := Aside0.mk (Kd.R_drew HO167.out)
          have n4_ := Aside0.mk (blk_drew BK142.out)
          have n5_ := Aside0.mk (IsS71.drew HI0.out)
          have n6_ := Aside0.mk (keep_drew HK.out)
          have n7_ := Aside0.mk (below_drew1 HB.out)
          clear HO149
          clear HO152
          clear HO161
          clear HO167
          clear BK142
          clear HI0
          clear HK
          clear HB
          have HO149 := n0_
          have HO152 := n1_
          have HO161 := n2_
          have HO167 := n3_
          have BK142 := n4_
          have HI0 := n5_
          have HK := n6_
          have HB := n7_
          clear n0_ n1_ n2_ n3_ n4_ n5_ n6_ n7_
          refine start_ (n := 9) (S := fun w' => True) (ds := []) #[false, false, false, false, false, false, false, false, false] (by kernel_rfl) rfl rfl trivial (fun hHeld => ?_); refine with_tabW spec_l20Fraction.tab4 spec_l20Fraction.bits4 (fun HT_ HW_ => ?_)
          generalize w44.drew = w45 at HO149 HO152 HO161 HO167 BK142 HI0 HK HB hHeld ⊢
          refine pure_ (i := 0) (N := some 39) (v := ?_) (a' := ?_) #[true, false, false, false, false, false, false, false, false] rfl rfl (any_of HT_.out (by kernel_rfl)) (fun _ _ _ h => h) (Or.inl ⟨by rfl, ?_⟩) ?_ ?_
          rotate_left
          ·intro w'
           go_simp
           with_reducible rfl
          rotate_left
          ·simp only [Act.put, List.setIfInBounds_toArray, List.set_cons_zero, List.set_cons_succ, i64_w, i32_w]
           rfl
          refine pure_ (i := 1) (N := some 40) (v := ?_) (a' := ?_) #[true, true, false, false, false, false, false, false, false] rfl rfl (any_of HT_.out (by kernel_rfl)) (fun _ _ _ h => h) (Or.inl ⟨by rfl, ?_⟩) ?_ ?_
          rotate_left
          ·intro w'
           go_simp
           with_reducible rfl
          rotate_left
          ·simp only [Act.put, List.setIfInBounds_toArray, List.set_cons_zero, List.set_cons_succ, i64_w, i32_w]
           rfl
          refine pure_ (i := 2) (N := some 41) (v := ?_) (a' := ?_) #[true, true, true, false, false, false, false, false, false] rfl rfl (any_of HT_.out (by kernel_rfl)) (fun _ _ _ h => h) (Or.inl ⟨by rfl, ?_⟩) ?_ ?_
          rotate_left
          ·intro w'
           go_simp
           with_reducible rfl
          rotate_left
          ·simp only [Act.put, List.setIfInBounds_toArray, List.set_cons_zero, List.set_cons_succ, i64_w, i32_w]
           rfl
          refine pure_ (i := 3) (N := some 42) (v := ?_) (a' := ?_) #[true, true, true, true, false, false, false, false, false] rfl rfl (any_of HT_.out (by kernel_rfl)) (fun _ _ _ h => h) (Or.inl ⟨by rfl, ?_⟩) ?_ ?_
          rotate_left
          ·intro w'
           go_simp
           with_reducible rfl
          rotate_left
          ·simp only [Act.put, List.setIfInBounds_toArray, List.set_cons_zero, List.set_cons_succ, i64_w, i32_w]
           rfl
          refine pure_ (i := 4) (N := some 43) (v := ?_) (a' := ?_) #[true, true, true, true, true, false, false, false, false] rfl rfl (any_of HT_.out (by kernel_rfl)) (fun _ _ _ h => h) (Or.inl ⟨by rfl, ?_⟩) ?_ ?_
          rotate_left
          ·intro w'
           go_simp
           with_reducible rfl
          rotate_left
          ·simp only [Act.put, List.setIfInBounds_toArray, List.set_cons_zero, List.set_cons_succ, i64_w, i32_w]
           rfl
          refine pure_ (i := 5) (N := some 44) (v := ?_) (a' := ?_) #[true, true, true, true, true, true, false, false, false] rfl rfl (any_of HT_.out (by kernel_rfl)) (fun _ _ _ h => h) (Or.inl ⟨by rfl, ?_⟩) ?_ ?_
          rotate_left
          ·intro w'
           go_simp
           with_reducible rfl
          rotate_left
          ·simp only [Act.put, List.setIfInBounds_toArray, List.set_cons_zero, List.set_cons_succ, i64_w, i32_w]
           rfl
          refine pure_ (i := 6) (N := some 45) (v := ?_) (a' := ?_) #[true, true, true, true, true, true, true, false, false] rfl rfl (any_of HT_.out (by kernel_rfl)) (fun _ _ _ h => h) (Or.inl ⟨by rfl, ?_⟩) ?_ ?_
          rotate_left
          ·intro w'
           go_simp
           with_reducible rfl
          rotate_left
          ·simp only [Act.put, List.setIfInBounds_toArray, List.set_cons_zero, List.set_cons_succ, i64_w, i32_w]
           rfl
          refine one_ (i := 7) (N := some 8) #[true, true, true, true, true, true, true, true, false] rfl rfl (one_of HT_.out (by kernel_rfl)) (by decide) (fun K hK => ?_)
          refine box_step ?hg (N := 8) ?hd (cs := #[.int .i64 0, .int .i64 0]) (t := 25) ?hr ?_; (case hd => rfl); (case hg => rfl); (case hr => first | (go_simp; done) | (go_simp; rfl))
          intro gb172 hg w46 hbox hb
          have n0_ := Aside0.mk (Kd.R_below (zz7_6_ HO149.out) hb)
          have n1_ := Aside0.mk (Kd.R_below (zz7_6_ HO152.out) hb)
          have n2_ := Aside0.mk (Kd.R_below (zz7_6_ HO161.out) hb)
          have n3_ := Aside0.mk (Kd.R_below (zz7_6_ HO167.out) hb)
          have n4_ := Aside0.mk (IsS71.below (zz7_4_ HI0.out NB0_142.out) hb)
          have n5_ := Aside0.mk (blk_below (g := gb142) (o := .cells #[.int .i64 0, .int .i64 0] 25 (0, 0)) (zz7_2_ BK142.out) hb)
          have n6_ := Aside0.mk (KeepBut.trans (zz7_3_ HK.out GW142.out) (KeepBut.of_below hb g none) (.inl rfl))
          have n7_ := Aside0.mk (below_step (zz7_5_ HB.out HI0.out GE142.out) hb)
          have n8_ := Aside0.mk (hbox)
          have n9_ := Aside0.mk ((by rw [hg]; exact (keep_size (w := w) (g := g) (row := none) (zz7_3_ HK.out GW142.out)) : w.heap.size ≤ gb172))
          have n10_ := Aside0.mk ((Nat.le_trans HW0.out (by rw [hg]; exact (keep_size (w := w) (g := g) (row := none) (zz7_3_ HK.out GW142.out)) : w.heap.size ≤ gb172) : w0.heap.size ≤ gb172))
          have n11_ := Aside0.mk ((by rw [hg]; exact Nat.ne_of_lt (blk_lt (g := gb142) (o := .cells #[.int .i64 0, .int .i64 0] 25 (0, 0)) (zz7_2_ BK142.out)) : gb142 ≠ gb172))
          have n12_ := Aside0.mk ((by rw [hg]; exact Nat.ne_of_gt (blk_lt (g := gb142) (o := .cells #[.int .i64 0, .int .i64 0] 25 (0, 0)) (zz7_2_ BK142.out)) : gb172 ≠ gb142))
          have n13_ := Aside0.mk ((by rw [hg]; exact Nat.ne_of_lt (IsS71.lt (show IsS71 w0 _ g s0_0 t169 from by repeat (first | (with_reducible first | exact HI0.out | apply IsS71.alloc | apply IsS71.drewN | apply IsS71.drew | apply IsS71.set_1 | refine IsS71.far ?_ NB0_142.out _) | exact HI0.out))) : g ≠ gb172))
          have n14_ := Aside0.mk ((by rw [hg]; exact Nat.ne_of_gt (IsS71.lt (show IsS71 w0 _ g s0_0 t169 from by repeat (first | (with_reducible first | exact HI0.out | apply IsS71.alloc | apply IsS71.drewN | apply IsS71.drew | apply IsS71.set_1 | refine IsS71.far ?_ NB0_142.out _) | exact HI0.out))) : gb172 ≠ g))
          clear HO149
          clear HO152
          clear HO161
          clear HO167
          clear HI0
          clear BK142
          clear HK
          clear HB
          have HO149 := n0_
          have HO152 := n1_
          have HO161 := n2_
          have HO167 := n3_
          have HI0 := n4_
          have BK142 := n5_
          have HK := n6_
          have HB := n7_
          have BK172 := n8_
          have GW172 := n9_
          have GE172 := n10_
          have NB142_172 := n11_
          have NB172_142 := n12_
          have NB0_172 := n13_
          have NB172_0 := n14_
          clear n0_ n1_ n2_ n3_ n4_ n5_ n6_ n7_ n8_ n9_ n10_ n11_ n12_ n13_ n14_
          clear hb hbox hg
          refine hK.out _ _ trivial (fun hHeld => ?_)
          clear hK K
          refine norm_ (a' := ?_) ?_ ?_
          rotate_left
          ·show Act.put _ (some 8) _ = _
           simp only [Act.put, List.setIfInBounds_toArray, List.set_cons_zero, List.set_cons_succ, i64_w, i32_w]
           rfl
          refine one_ (i := 8) (N := none) #[true, true, true, true, true, true, true, true, true] rfl rfl (one_of HT_.out (by kernel_rfl)) (by decide) (fun K hK => ?_)
          have hs47 : w46.cell? ⟨gb172, 0, none⟩ = some (.int .i64 0) := (blk_cell BK172.out 0).trans rfl
          have hfs47 := blk_frozen BK172.out 0
          have hns47_0 := NB142_172.out
          have hms47_0 := NB172_142.out
          have hs48 : w46.cell? ⟨gb172, 1, none⟩ = some (.int .i64 0) := (blk_cell BK172.out 1).trans rfl
          have hfs48 := blk_frozen BK172.out 1
          have hns48_0 := NB142_172.out
          have hms48_0 := NB172_142.out
          refine skip_ (w1 := ?_) (by rfl) rfl ?_ ?_
          rotate_left
          ·go_simp
           rfl
          refine hK.out _ _ trivial (fun hHeld => ?_)
          clear hK K
          refine done_ (done_of HT_.out (by kernel_rfl)) ?_
          go_upto_if 48 with (first | ((with_reducible refine gate_callee (f := 44) rfl ?_); refine goesL_ (some 48) rfl rfl Tryd.func44 (by kernel_rfl) rfl #[.pointer (some ⟨g, 0, none⟩), .int .i64 a1] rfl (zz7_1_) ?_; (with_reducible refine (spec_l20Rd_odd.calls k g s0_0 t169 a1 t173 t174 w0 _ ?side1 ?side2 A19.out).mono ?_); (case side1 => exact zz7_10_ HI0.out NB0_142.out NB0_172.out); (case side2 => exact zz7_11_ HB.out HI0.out GE142.out GE172.out); rintro e w49 ⟨rfl, hi, hb, hk⟩; refine ⟨_, rfl, ?_⟩; have n0_ := Aside0.mk (KeepBut.blk hk (g' := gb142) (o := .cells #[.int .i64 0, .int .i64 0] 25 (0, 0)) (by (with_reducible repeat (first | refine blk_drewN ?_ _ | refine blk_drew ?_ | refine blk_alloc ?_ _)); refine blk_far ?_ NB142_172.out _; (with_reducible repeat (first | refine blk_drewN ?_ _ | refine blk_drew ?_ | refine blk_alloc ?_ _)); refine blk_far ?_ NB142_172.out _; (with_reducible repeat (first | refine blk_drewN ?_ _ | refine blk_drew ?_ | refine blk_alloc ?_ _)); exact BK142.out) NB142_0.out (by simp)); have n1_ := Aside0.mk (Kd.R_mono (Kd.R_keep (IsS71.apart (show IsS71 w0 _ g s0_0 t169 from by repeat (first | (with_reducible first | exact HI0.out | apply IsS71.alloc | apply IsS71.drewN | apply IsS71.drew | apply IsS71.set_1 | refine IsS71.far ?_ NB0_142.out _ | refine IsS71.far ?_ NB0_172.out _) | exact HI0.out)) (by (with_reducible repeat (first | apply Kd.R_alloc | apply Kd.R_drewN | apply Kd.R_drew)); exact (Kd.R_mono (Kd.R_far (p := ⟨gb172, 1, none⟩) (Kd.R_far (p := ⟨gb172, 0, none⟩) (Kd.R_types HO149.out BK172.out (by decide)) (fun _ hk => hk.2) (.int .i64 (wrap64 (Int.tdiv (rd y147 (rd y150 t153)) t171)))) (fun _ hk => hk.2) (.int .i64 (wrap64 (Int.tdiv (rd y165 t168) t171)))) (fun _ h_ => h_.1))) (by decide)) hk (fun _ h => h.2)) (fun _ h => h.1)); have n2_ := Aside0.mk (Kd.R_mono (Kd.R_keep (IsS71.apart (show IsS71 w0 _ g s0_0 t169 from by repeat (first | (with_reducible first | exact HI0.out | apply IsS71.alloc | apply IsS71.drewN | apply IsS71.drew | apply IsS71.set_1 | refine IsS71.far ?_ NB0_142.out _ | refine IsS71.far ?_ NB0_172.out _) | exact HI0.out)) (by (with_reducible repeat (first | apply Kd.R_alloc | apply Kd.R_drewN | apply Kd.R_drew)); exact (Kd.R_mono (Kd.R_far (p := ⟨gb172, 1, none⟩) (Kd.R_far (p := ⟨gb172, 0, none⟩) (Kd.R_types HO152.out BK172.out (by decide)) (fun _ hk => hk.2) (.int .i64 (wrap64 (Int.tdiv (rd y147 (rd y150 t153)) t171)))) (fun _ hk => hk.2) (.int .i64 (wrap64 (Int.tdiv (rd y165 t168) t171)))) (fun _ h_ => h_.1))) (by decide)) hk (fun _ h => h.2)) (fun _ h => h.1)); have n3_ := Aside0.mk (Kd.R_mono (Kd.R_keep (IsS71.apart (show IsS71 w0 _ g s0_0 t169 from by repeat (first | (with_reducible first | exact HI0.out | apply IsS71.alloc | apply IsS71.drewN | apply IsS71.drew | apply IsS71.set_1 | refine IsS71.far ?_ NB0_142.out _ | refine IsS71.far ?_ NB0_172.out _) | exact HI0.out)) (by (with_reducible repeat (first | apply Kd.R_alloc | apply Kd.R_drewN | apply Kd.R_drew)); exact (Kd.R_mono (Kd.R_far (p := ⟨gb172, 1, none⟩) (Kd.R_far (p := ⟨gb172, 0, none⟩) (Kd.R_types HO161.out BK172.out (by decide)) (fun _ hk => hk.2) (.int .i64 (wrap64 (Int.tdiv (rd y147 (rd y150 t153)) t171)))) (fun _ hk => hk.2) (.int .i64 (wrap64 (Int.tdiv (rd y165 t168) t171)))) (fun _ h_ => h_.1))) (by decide)) hk (fun _ h => h.2)) (fun _ h => h.1)); have n4_ := Aside0.mk (Kd.R_mono (Kd.R_keep (IsS71.apart (show IsS71 w0 _ g s0_0 t169 from by repeat (first | (with_reducible first | exact HI0.out | apply IsS71.alloc | apply IsS71.drewN | apply IsS71.drew | apply IsS71.set_1 | refine IsS71.far ?_ NB0_142.out _ | refine IsS71.far ?_ NB0_172.out _) | exact HI0.out)) (by (with_reducible repeat (first | apply Kd.R_alloc | apply Kd.R_drewN | apply Kd.R_drew)); exact (Kd.R_mono (Kd.R_far (p := ⟨gb172, 1, none⟩) (Kd.R_far (p := ⟨gb172, 0, none⟩) (Kd.R_types HO167.out BK172.out (by decide)) (fun _ hk => hk.2) (.int .i64 (wrap64 (Int.tdiv (rd y147 (rd y150 t153)) t171)))) (fun _ hk => hk.2) (.int .i64 (wrap64 (Int.tdiv (rd y165 t168) t171)))) (fun _ h_ => h_.1))) (by decide)) hk (fun _ h => h.2)) (fun _ h => h.1)); have n5_ := Aside0.mk (KeepBut.blk hk (g' := gb172) (o := .cells #[.int .i64 (wrap64 (Int.tdiv (rd y147 (rd y150 t153)) t171)), .int .i64 (wrap64 (Int.tdiv (rd y165 t168) t171))] 25 (0, 0)) (by (with_reducible repeat (first | refine blk_drewN ?_ _ | refine blk_drew ?_ | refine blk_alloc ?_ _)); refine blk_put (cs := #[.int .i64 (wrap64 (Int.tdiv (rd y147 (rd y150 t153)) t171)), .int .i64 0]) ?_ 1 _ rfl; (with_reducible repeat (first | refine blk_drewN ?_ _ | refine blk_drew ?_ | refine blk_alloc ?_ _)); refine blk_put (cs := #[.int .i64 0, .int .i64 0]) ?_ 0 _ rfl; (with_reducible repeat (first | refine blk_drewN ?_ _ | refine blk_drew ?_ | refine blk_alloc ?_ _)); exact BK172.out) NB172_0.out (by simp)); have n6_ := Aside0.mk (KeepBut.trans (zz7_9_ HK.out GW142.out GW172.out) hk (.inl rfl)); have n7_ := Aside0.mk (hb); have n8_ := Aside0.mk (hi); clear BK142; clear HO149; clear HO152; clear HO161; clear HO167; clear BK172; clear HK; clear HB; clear HI0; have BK142 := n0_; have HO149 := n1_; have HO152 := n2_; have HO161 := n3_; have HO167 := n4_; have BK172 := n5_; have HK := n6_; have HB := n7_; have HI0 := n8_; clear n0_ n1_ n2_ n3_ n4_ n5_ n6_ n7_ n8_; (try clear hb); (try clear hb2); (try clear hk); (try clear hi)))
          (try simp only [Act.put, List.setIfInBounds_toArray, List.set_cons_zero, List.set_cons_succ])
          go_cut [] (fun wc => ∃ (kq : Nat) (x1001_19 : Int) (x173000_19 : Int) (x173001_19 : Int), Aside0 (spec_l20Fraction.j0 kq s0_0 x1001_19 x173000_19 x173001_19 = some (r1, r2, r3)) ∧ Aside0 (kq ≤ k) ∧ Aside0 (wc.heap[gb142]? = some (.cells #[.int .i64 0, .int .i64 0] 25 (0, 0))) ∧ Aside0 (wc.heap[gb172]? = some (.cells #[.int .i64 x173000_19, .int .i64 x173001_19] 25 (0, 0))) ∧ Aside0 (IsS71 w0 wc g s0_0 x1001_19) ∧ Aside0 (KeepBut w wc g none) ∧ Aside0 (Below w0.heap.size w0 wc))
          case first =>
           have H := HC20.out
           clear HC20
           by_cases c50 : t173 = true
           ·subst c50
            rw [if_pos rfl] at H
            obtain ⟨y175, hy175⟩ : ∃ y_ : List (S25), y_ = (([(⟨2, 4⟩ : S25), (⟨1, 0⟩ : S25), (⟨1000000001, 1⟩ : S25), (⟨1, 1000001⟩ : S25), (⟨1, (-1)⟩ : S25), (⟨0, 0⟩ : S25)] : List (S25))) := ⟨_, rfl⟩
            replace H : ((spec_l20Rd_pick.f k s0_0 t174 6).bind fun bt178 => (if 0 ≤ bt178.1 then (if bt178.1 < (y175.length : Int) then (spec_l20Fraction.j0 k s0_0 bt178.2 ((rd_T25 y175 bt178.1).f0) ((rd_T25 y175 bt178.1).f1)) else (none)) else (none))) = some (r1, r2, r3) := by first | (rw [hy175]; with_reducible exact H) | (have H2_ := (Option.bind_some _ _).symm.trans H; rw [hy175]; with_reducible exact H2_) | (have H2_ := (Option.bind_some _ _).symm.trans H; with_reducible exact H2_) | with_reducible exact H | (rw [hy175]; exact H) | exact H
            have Ny175 := Aside0.mk hy175
            clear hy175
            replace H := Option.bind_eq_some_iff.mp H
            obtain ⟨⟨t178, t179⟩, A510, H⟩ := H
            try dsimp only at H
            have A51 := Aside0.mk A510
            clear A510
            by_cases c52 : 0 ≤ t178
            ·rw [if_pos c52] at H
             have c52b0 : decide (0 ≤ t178) = true := decide_eq_true c52
             clear c52
             (first | rw [c52b0] | (simp only [i64_w, i32_w]; rw [c52b0]) | skip)
             by_cases c53 : t178 < (y175.length : Int)
             ·rw [if_pos c53] at H
              have c53b0 : decide (t178 < (y175.length : Int)) = true := decide_eq_true c53
              clear c53
              have H' := Aside0.mk H
              clear H
              go_wp2_with (first | ((with_reducible refine gate_dst (N := 55) rfl ?_); refine Kd.R_lit k25 _ 25 ?hg (N := 55) ?hd (xs := ([(⟨2, 4⟩ : S25), (⟨1, 0⟩ : S25), (⟨1000000001, 1⟩ : S25), (⟨1, 1000001⟩ : S25), (⟨1, (-1)⟩ : S25), (⟨0, 0⟩ : S25)] : List (S25))) (inner := [.int .i64 2, .int .i64 4, .int .i64 1, .int .i64 0, .int .i64 1000000001, .int .i64 1, .int .i64 1, .int .i64 1000001, .int .i64 1, .int .i64 (-1), .int .i64 0, .int .i64 0]) (ok := fun _ => True) (okp := fun _ => True) ?hr ?hp (fun _ hk => hk) trivial (Below.refl _ _) (Nat.le_refl _) (by simp) ?_; (case hd => rfl); (case hg => rfl); (case hr => first | (go_simp; done) | (go_simp; rfl)); (case hp => exact (Reps.c2 (show Kd.M k25 _ _ _ (⟨2, 4⟩ : S25) [.int .i64 2, .int .i64 4] from (k25_mkM _ _ _ (⟨2, 4⟩ : S25) )) (Reps.c2 (show Kd.M k25 _ _ _ (⟨1, 0⟩ : S25) [.int .i64 1, .int .i64 0] from (k25_mkM _ _ _ (⟨1, 0⟩ : S25) )) (Reps.c2 (show Kd.M k25 _ _ _ (⟨1000000001, 1⟩ : S25) [.int .i64 1000000001, .int .i64 1] from (k25_mkM _ _ _ (⟨1000000001, 1⟩ : S25) )) (Reps.c2 (show Kd.M k25 _ _ _ (⟨1, 1000001⟩ : S25) [.int .i64 1, .int .i64 1000001] from (k25_mkM _ _ _ (⟨1, 1000001⟩ : S25) )) (Reps.c2 (show Kd.M k25 _ _ _ (⟨1, (-1)⟩ : S25) [.int .i64 1, .int .i64 (-1)] from (k25_mkM _ _ _ (⟨1, (-1)⟩ : S25) )) (Reps.c2 (show Kd.M k25 _ _ _ (⟨0, 0⟩ : S25) [.int .i64 0, .int .i64 0] from (k25_mkM _ _ _ (⟨0, 0⟩ : S25) )) (Reps.none _ _)))))))); intro v176 w54 ho55 hb hg_ hnew_; clear hg_ hnew_; (first | rw [← Ny175.out] at ho55 | (simp only [Int.reduceToNat] at ho55; rw [← Ny175.out] at ho55)); have n0_ := Aside0.mk (Kd.R_below (zz7_6_ HO149.out) hb); have n1_ := Aside0.mk (Kd.R_below (zz7_6_ HO152.out) hb); have n2_ := Aside0.mk (Kd.R_below (zz7_6_ HO161.out) hb); have n3_ := Aside0.mk (Kd.R_below (zz7_6_ HO167.out) hb); have n4_ := Aside0.mk (Kd.R_lower (Kd.R_newB (Kd.R_newB ho55 (g := gb142) (o := .cells #[.int .i64 0, .int .i64 0] 25 (0, 0)) (zz7_2_ BK142.out)) (g := gb172) (o := .cells #[.int .i64 (wrap64 (Int.tdiv (rd y147 (rd y150 t153)) t171)), .int .i64 (wrap64 (Int.tdiv (rd y165 t168) t171))] 25 (0, 0)) (zz7_2_ BK172.out)) (keep_size (w := w) (g := g) (row := none) (zz7_9_ HK.out GW142.out GW172.out))); have n5_ := Aside0.mk (IsS71.below (zz7_10_ HI0.out NB0_142.out NB0_172.out) hb); have n6_ := Aside0.mk (blk_below (g := gb142) (o := .cells #[.int .i64 0, .int .i64 0] 25 (0, 0)) (zz7_2_ BK142.out) hb); have n7_ := Aside0.mk (blk_below (g := gb172) (o := .cells #[.int .i64 (wrap64 (Int.tdiv (rd y147 (rd y150 t153)) t171)), .int .i64 (wrap64 (Int.tdiv (rd y165 t168) t171))] 25 (0, 0)) (zz7_2_ BK172.out) hb); have n8_ := Aside0.mk (KeepBut.trans (zz7_9_ HK.out GW142.out GW172.out) (KeepBut.of_below hb g none) (.inl rfl)); have n9_ := Aside0.mk (below_step (zz7_11_ HB.out HI0.out GE142.out GE172.out) hb); clear HO149; clear HO152; clear HO161; clear HO167; clear HI0; clear BK142; clear BK172; clear HK; clear HB; have HO149 := n0_; have HO152 := n1_; have HO161 := n2_; have HO167 := n3_; have HO177 := n4_; have HI0 := n5_; have BK142 := n6_; have BK172 := n7_; have HK := n8_; have HB := n9_; clear n0_ n1_ n2_ n3_ n4_ n5_ n6_ n7_ n8_ n9_; clear hb ho55) | ((with_reducible refine gate_callee (f := 45) rfl ?_); refine goesL_ (some 57) rfl rfl Tryd.func45 (by kernel_rfl) rfl #[.pointer (some ⟨g, 0, none⟩), .int .i64 6] rfl (zz7_1_) ?_; (with_reducible refine (spec_l20Rd_pick.calls k g s0_0 t174 6 t178 t179 w0 _ ?side1 ?side2 A51.out).mono ?_); (case side1 => exact zz7_10_ HI0.out NB0_142.out NB0_172.out); (case side2 => exact zz7_11_ HB.out HI0.out GE142.out GE172.out); rintro e w56 ⟨rfl, hi, hb, hk⟩; refine ⟨_, rfl, ?_⟩; have n0_ := Aside0.mk (KeepBut.blk hk (g' := gb142) (o := .cells #[.int .i64 0, .int .i64 0] 25 (0, 0)) (zz7_2_ BK142.out) NB142_0.out (by simp)); have n1_ := Aside0.mk (Kd.R_mono (Kd.R_keep (IsS71.apart (show IsS71 w0 _ g s0_0 t174 from by repeat (first | (with_reducible first | exact HI0.out | apply IsS71.alloc | apply IsS71.drewN | apply IsS71.drew | apply IsS71.set_1 | refine IsS71.far ?_ NB0_142.out _ | refine IsS71.far ?_ NB0_172.out _) | exact HI0.out)) (zz7_6_ HO149.out) (by decide)) hk (fun _ h => h.2)) (fun _ h => h.1)); have n2_ := Aside0.mk (Kd.R_mono (Kd.R_keep (IsS71.apart (show IsS71 w0 _ g s0_0 t174 from by repeat (first | (with_reducible first | exact HI0.out | apply IsS71.alloc | apply IsS71.drewN | apply IsS71.drew | apply IsS71.set_1 | refine IsS71.far ?_ NB0_142.out _ | refine IsS71.far ?_ NB0_172.out _) | exact HI0.out)) (zz7_6_ HO152.out) (by decide)) hk (fun _ h => h.2)) (fun _ h => h.1)); have n3_ := Aside0.mk (Kd.R_mono (Kd.R_keep (IsS71.apart (show IsS71 w0 _ g s0_0 t174 from by repeat (first | (with_reducible first | exact HI0.out | apply IsS71.alloc | apply IsS71.drewN | apply IsS71.drew | apply IsS71.set_1 | refine IsS71.far ?_ NB0_142.out _ | refine IsS71.far ?_ NB0_172.out _) | exact HI0.out)) (zz7_6_ HO161.out) (by decide)) hk (fun _ h => h.2)) (fun _ h => h.1)); have n4_ := Aside0.mk (Kd.R_mono (Kd.R_keep (IsS71.apart (show IsS71 w0 _ g s0_0 t174 from by repeat (first | (with_reducible first | exact HI0.out | apply IsS71.alloc | apply IsS71.drewN | apply IsS71.drew | apply IsS71.set_1 | refine IsS71.far ?_ NB0_142.out _ | refine IsS71.far ?_ NB0_172.out _) | exact HI0.out)) (zz7_6_ HO167.out) (by decide)) hk (fun _ h => h.2)) (fun _ h => h.1)); have n5_ := Aside0.mk (KeepBut.blk hk (g' := gb172) (o := .cells #[.int .i64 (wrap64 (Int.tdiv (rd y147 (rd y150 t153)) t171)), .int .i64 (wrap64 (Int.tdiv (rd y165 t168) t171))] 25 (0, 0)) (zz7_2_ BK172.out) NB172_0.out (by simp)); have n6_ := Aside0.mk (Kd.R_mono (Kd.R_keep (IsS71.apart (show IsS71 w0 _ g s0_0 t174 from by repeat (first | (with_reducible first | exact HI0.out | apply IsS71.alloc | apply IsS71.drewN | apply IsS71.drew | apply IsS71.set_1 | refine IsS71.far ?_ NB0_142.out _ | refine IsS71.far ?_ NB0_172.out _) | exact HI0.out)) (zz7_6_ HO177.out) (by decide)) hk (fun _ h => h.2)) (fun _ h => h.1)); have n7_ := Aside0.mk (KeepBut.trans (zz7_9_ HK.out GW142.out GW172.out) hk (.inl rfl)); have n8_ := Aside0.mk (hb); have n9_ := Aside0.mk (hi); clear BK142; clear HO149; clear HO152; clear HO161; clear HO167; clear BK172; clear HO177; clear HK; clear HB; clear HI0; have BK142 := n0_; have HO149 := n1_; have HO152 := n2_; have HO161 := n3_; have HO167 := n4_; have BK172 := n5_; have HO177 := n6_; have HK := n7_; have HB := n8_; have HI0 := n9_; clear n0_ n1_ n2_ n3_ n4_ n5_ n6_ n7_ n8_ n9_; (try clear hb); (try clear hb2); (try clear hk); (try clear hi); obtain ⟨Ao57, co57, eo57⟩ := Kd.R_slice HO177.out; subst eo57; have p180 : 0 ≤ (t178 : Int) := of_decide_eq_true (zz7_7_); have q180 : t178 < (y175.length : Int) := of_decide_eq_true (zz7_7_); obtain ⟨ad180, e180, hx180_0, hx180_1⟩ := at_T25 (Kd.R_reads' HO177.out).2.2 t178 p180 q180; cases e180; replace p180 := eq_true p180; replace q180 := eq_true q180; have hnb58 := NB172_142.out; have hnc58 := NB142_172.out; have hnb59 := NB172_0.out; have hnc59 := NB0_172.out; have hcz60_0 : w56.cell? ⟨gb172, 0, none⟩ = some (.int .i64 (wrap64 (Int.tdiv (rd y147 (rd y150 t153)) t171))) := (blk_cell BK172.out 0).trans rfl; have hcz60_1 : w56.cell? ⟨gb172, 1, none⟩ = some (.int .i64 (wrap64 (Int.tdiv (rd y165 t168) t171))) := (blk_cell BK172.out 1).trans rfl; have hfz60_0 := blk_frozen BK172.out 0; have hfz60_1 := blk_frozen BK172.out 1))
              go_meet
              case rel => exact ⟨_, (t179), ((rd_T25 y175 t178).f0), ((rd_T25 y175 t178).f1), H', ⟨by first | omega | exact Nat.le_refl _⟩, ⟨by (with_reducible repeat (first | refine blk_drewN ?_ _ | refine blk_drew ?_ | refine blk_alloc ?_ _)); refine blk_far ?_ NB142_172.out _; (with_reducible repeat (first | refine blk_drewN ?_ _ | refine blk_drew ?_ | refine blk_alloc ?_ _)); refine blk_far ?_ NB142_172.out _; (with_reducible repeat (first | refine blk_drewN ?_ _ | refine blk_drew ?_ | refine blk_alloc ?_ _)); exact BK142.out⟩, ⟨by (with_reducible repeat (first | refine blk_drewN ?_ _ | refine blk_drew ?_ | refine blk_alloc ?_ _)); refine blk_put (cs := #[.int .i64 ((rd_T25 y175 t178).f0), .int .i64 (wrap64 (Int.tdiv (rd y165 t168) t171))]) ?_ 1 _ rfl; (with_reducible repeat (first | refine blk_drewN ?_ _ | refine blk_drew ?_ | refine blk_alloc ?_ _)); refine blk_put (cs := #[.int .i64 (wrap64 (Int.tdiv (rd y147 (rd y150 t153)) t171)), .int .i64 (wrap64 (Int.tdiv (rd y165 t168) t171))]) ?_ 0 _ rfl; (with_reducible repeat (first | refine blk_drewN ?_ _ | refine blk_drew ?_ | refine blk_alloc ?_ _)); exact BK172.out⟩, ⟨zz7_10_ HI0.out NB0_142.out NB0_172.out⟩, ⟨zz7_9_ HK.out GW142.out GW172.out⟩, ⟨zz7_11_ HB.out HI0.out GE142.out GE172.out⟩⟩
             ·rw [if_neg c53] at H
              exact absurd H (by simp)
            ·rw [if_neg c52] at H
             exact absurd H (by simp)
           ·replace c50 := Bool.eq_false_iff.mpr c50
            subst c50
            rw [if_neg (show ¬ (false = true) by decide)] at H
            have H' := Aside0.mk H
            clear H
            go_wp2
            go_meet
            case rel => exact ⟨_, (t174), (wrap64 (Int.tdiv (rd y147 (rd y150 t153)) t171)), (wrap64 (Int.tdiv (rd y165 t168) t171)), H', ⟨by first | omega | exact Nat.le_refl _⟩, ⟨zz7_2_ BK142.out⟩, ⟨zz7_2_ BK172.out⟩, ⟨zz7_10_ HI0.out NB0_142.out NB0_172.out⟩, ⟨zz7_9_ HK.out GW142.out GW172.out⟩, ⟨zz7_11_ HB.out HI0.out GE142.out GE172.out⟩⟩
          case rest =>
           clear HC20
           try clear p1
           try clear q1
           try clear hx1
           try clear qi1
           try clear c2
           try clear p2
           try clear c3
           try clear c4
           try clear c5
           try clear p6
           try clear qi16
           try clear qi17
           try clear p18
           try clear q18
           try clear hx18
           try clear c32
           try clear c44
           try clear c45
           try clear c50
           try clear c52
           try clear c52b0
           try clear c53
           try clear c53b0
           try clear c58
           try clear c59
           try clear hcz60_0
           try clear hcz60_1
           try clear hfz60_0
           try clear hfz60_1
           try clear hx180_0
           try clear hx180_1
           try clear p180
           try clear q180
           obtain ⟨kq, x1001_19, x173000_19, x173001_19, HA, HJ19, BK142, BK172, HI0, HK, HB⟩ := hcut
           cases kq with
           | zero => exact absurd HA.out (by simp [spec_l20Fraction.j0])
           | succ kj19 =>
            have H := HA.out
            clear HA
            simp only [spec_l20Fraction.j0] at H
            simp only [Option.some.injEq, Prod.mk.injEq] at H
            obtain ⟨rfl, rfl, rfl⟩ := H
            have hnb61 := NB172_142.out
            have hnc61 := NB142_172.out
            have hnb62 := NB172_0.out
            have hnc62 := NB0_172.out
            have hcz63_0 : wc.cell? ⟨gb172, 0, none⟩ = some (.int .i64 x173000_19) := (blk_cell BK172.out 0).trans rfl
            have hcz63_1 : wc.cell? ⟨gb172, 1, none⟩ = some (.int .i64 x173001_19) := (blk_cell BK172.out 1).trans rfl
            have hfz63_0 := blk_frozen BK172.out 0
            have hfz63_1 := blk_frozen BK172.out 1
            have hnb64 := NB142_0.out
            have hnc64 := NB0_142.out
            have hcz65_0 : wc.cell? ⟨gb142, 0, none⟩ = some (.int .i64 0) := (blk_cell BK142.out 0).trans rfl
            have hcz65_1 : wc.cell? ⟨gb142, 1, none⟩ = some (.int .i64 0) := (blk_cell BK142.out 1).trans rfl
            have hfz65_0 := blk_frozen BK142.out 0
            have hfz65_1 := blk_frozen BK142.out 1
            go_wp2
            refine bodyPost_ret (results_cell_row rfl _ _ gb142 25 #[.int .i64 x173000_19, .int .i64 x173001_19] (0, 0) _ rfl (by (with_reducible repeat (first | refine blk_drewN ?_ _ | refine blk_drew ?_ | refine blk_alloc ?_ _)); refine blk_put (cs := #[.int .i64 x173000_19, .int .i64 0]) ?_ 1 _ rfl; (with_reducible repeat (first | refine blk_drewN ?_ _ | refine blk_drew ?_ | refine blk_alloc ?_ _)); refine blk_put (cs := #[.int .i64 0, .int .i64 0]) ?_ 0 _ rfl; (with_reducible repeat (first | refine blk_drewN ?_ _ | refine blk_drew ?_ | refine blk_alloc ?_ _)); exact BK142.out) Tryd.underlying25 rfl (by kernel_rfl)) rfl ?_
            exact ⟨by first | rfl | (simp [errW_none, errW_some] <;> rfl) | (simp [*, errW_none, errW_some] <;> rfl), zz7_10_ HI0.out NB0_142.out NB0_172.out, zz7_11_ HB.out HI0.out GE142.out GE172.out, zz7_9_ HK.out GW142.out GW172.out⟩
        ·rw [if_neg c16] at H
         exact absurd H (by simp)
       ·rw [if_neg c15] at H
        exact absurd H (by simp)
      ·rw [if_neg c13] at H
       exact absurd H (by simp)
     ·rw [if_neg c12] at H
      exact absurd H (by simp)
    ·rw [if_neg c9] at H
     exact absurd H (by simp)
   ·rw [if_neg c8] at H
    exact absurd H (by simp)
  ·rw [if_neg c7] at H
   exact absurd H (by simp)
 ·rw [if_neg c6] at H
  exact absurd H (by simp)

end Go.Proofs.YtifeiepociopoaaDoor.PFrac
