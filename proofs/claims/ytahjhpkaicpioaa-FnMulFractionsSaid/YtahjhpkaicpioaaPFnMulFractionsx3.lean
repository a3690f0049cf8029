-- Written for this session by its program hprint.py over the kit's print: functions, and contracts that the walk of the Go code proves.
import Derived.Test.YtahjhpkaicpioaaPFnMulFractionsx0
import Derived.Test.YtahjhpkaicpioaaPFnMulFractionsx2
namespace Go.Proofs.Ytahjhpkaicpioaa.PFnMulFractions
open Go.RowKit Go.Proofs.YtahjhpkaicpioaaW.PrintWords Go.Proofs.YtahjhpkaicpioaaW.PrintLast Go.Proofs.YtahjhpkaicpioaaW.PrintMore
attribute [local go_sem] max2_int min2_int max_two min_two max_three min_three max_four min_four   -- for this text's walks alone
set_option linter.unusedVariables false
set_option linter.unusedSimpArgs false

/-! ### spec_l20Fraction: function 29 -/
def spec_l20Fraction.f (k : Nat) (s0_0 : List Int) (s0_1 : Int) (a1 : Int) : Option (Int × Int × Int) := (spec_l20Rd_pick.f k s0_0 s0_1 24).bind fun bt116 => ((spec_l20Rd_pick.f k s0_0 bt116.2 256).bind fun bt118 => ((some (([wrap64 (bt116.1 - 12), wrap64 (bt118.1 * 999), 1000000000, (-1000000000)] : List Int) : List Int)).bind fun y120 => ((some (([0, 0, 0, 1, 2, 3] : List Int) : List Int)).bind fun y123 => ((spec_l20Rd_pick.f k s0_0 bt118.2 6).bind fun bt126 => (if 0 ≤ bt126.1 then (if bt126.1 < (y123.length : Int) then (if 0 ≤ (rd y123 bt126.1) then (if (rd y123 bt126.1) < (y120.length : Int) then ((spec_l20Rd_pick.f k s0_0 bt126.2 9).bind fun bt130 => ((some (([2, 4, 10, 100, 1000, 1000000] : List Int) : List Int)).bind fun y132 => ((spec_l20Rd_pick.f k s0_0 bt130.2 6).bind fun bt135 => (if 0 ≤ bt135.1 then (if bt135.1 < (y132.length : Int) then ((some (([1, wrap64 (1 + bt130.1), rd y132 bt135.1, 3] : List Int) : List Int)).bind fun y138 => ((spec_l20Rd_pick.f k s0_0 bt135.2 4).bind fun bt141 => (if 0 ≤ bt141.1 then (if bt141.1 < (y138.length : Int) then ((spec_l2Gcd.f k (rd y120 (rd y123 bt126.1)) (rd y138 bt141.1)).bind fun t144 => (if t144 = 0 then (none) else ((spec_l20Rd_odd.f k s0_0 bt141.2 a1).bind fun bt146 => (if bt146.1 = true then ((some (([(⟨2, 4⟩ : S24), (⟨1, 0⟩ : S24), (⟨1000000001, 1⟩ : S24), (⟨1, 1000001⟩ : S24), (⟨1, (-1)⟩ : S24), (⟨0, 0⟩ : S24)] : List (S24)) : List (S24))).bind fun y148 => ((spec_l20Rd_pick.f k s0_0 bt146.2 6).bind fun bt151 => (if 0 ≤ bt151.1 then (if bt151.1 < (y148.length : Int) then (some ((rd_T24 y148 bt151.1).f0, (rd_T24 y148 bt151.1).f1, bt151.2)) else (none)) else (none)))) else (some (wrap64 (Int.tdiv (rd y120 (rd y123 bt126.1)) t144), wrap64 (Int.tdiv (rd y138 bt141.1) t144), bt146.2)))))) else (none)) else (none)))) else (none)) else (none))))) else (none)) else (none)) else (none)) else (none))))))
theorem spec_l20Fraction.mono : ∀ a0 a1 a2 k, LeO (spec_l20Fraction.f k a0 a1 a2) (spec_l20Fraction.f (k + 1) a0 a1 a2) := by
  intro a0 a1 a2 k
  unfold spec_l20Fraction.f
  repeat' first
      | (with_reducible exact spec_l20Rd_odd.mono _ _ _ _)
      | (with_reducible exact spec_l20Rd_pick.mono _ _ _ _)
      | (with_reducible exact spec_l2Gcd.mono _ _ _)
      | (with_reducible exact LeO.refl _)
      | (with_reducible exact LeO.none _)
      | (with_reducible refine LeO.ite ?_ ?_)
      | (with_reducible refine LeO.bind ?_ (fun _ => ?_))
      | exact spec_l20Rd_odd.mono _ _ _ _
      | exact spec_l20Rd_pick.mono _ _ _ _
      | exact spec_l2Gcd.mono _ _ _
      | exact LeO.none _
      | refine LeO.ite ?_ ?_
      | refine LeO.bind ?_ (fun _ => ?_)
def spec_l20Fraction.T2 : Bool × List (List Nat × List Nat) := (true, [([], []), ([0], [0]), ([1], [1]), ([], []), ([], []), ([4, 1], [4]), ([3, 5], [3, 5]), ([6], [6]), ([2, 7], [2, 7]), ([], []), ([9, 5], [9]), ([8, 10], [8, 10]), ([11], [11]), ([12, 10, 0, 1, 2, 3, 4, 5, 6, 7, 8, 9, 10, 11, 12], [12])])
def spec_l20Fraction.B2 : List Nat := [0, 1, 3, 0, 0, 19, 59, 123, 255, 0, 563, 2047, 4095, 8191]
theorem spec_l20Fraction.tab2 : rtab .any (opsOf Try.f29 2) = spec_l20Fraction.T2 := by kernel_rfl
theorem spec_l20Fraction.bits2 : waitsOk spec_l20Fraction.T2.2 spec_l20Fraction.B2 = true := by kernel_rfl
def spec_l20Fraction.T4 : Bool × List (List Nat × List Nat) := (true, [([], []), ([], []), ([0, 1], [0, 1]), ([], []), ([], []), ([3, 4], [3, 4]), ([2, 5], [2, 5]), ([], []), ([7, 6, 0, 1, 2, 3, 4, 5, 6, 7], [6, 7])])
def spec_l20Fraction.B4 : List Nat := [0, 0, 3, 0, 0, 24, 63, 0, 255]
theorem spec_l20Fraction.tab4 : rtab .any (opsOf Try.f29 4) = spec_l20Fraction.T4 := by kernel_rfl
theorem spec_l20Fraction.bits4 : waitsOk spec_l20Fraction.T4.2 spec_l20Fraction.B4 = true := by kernel_rfl
set_option maxHeartbeats 8000000 in
set_option maxRecDepth 100000 in
theorem spec_l20Fraction.calls (k : Nat) (g : Nat) (s0_0 : List Int) (s0_1 : Int) (a1 : Int) (r1 : Int) (r2 : Int) (r3 : Int) (w0 w : World) (hI : IsS50 w0 w g s0_0 s0_1) (hB : Below w0.heap.size w0 w) (h : spec_l20Fraction.f k s0_0 s0_1 a1 = some (r1, r2, r3)) :
    Calls Try.prog 29 #[.pointer (some ⟨g, 0, none⟩), .int .i64 a1] w fun e w' => e = .returned (.agg #[.int .i64 r1, .int .i64 r2]) ∧ IsS50 w0 w' g s0_0 r3 ∧ Below w0.heap.size w0 w' ∧ KeepBut w w' g none := by
  have hu24 := Try.underlying24
  have HI0 := Aside0.mk hI
  have HK := Aside0.mk (KeepBut.refl w g none)
  have HL := Aside0.mk hB.size
  clear hI
  have HW0 := Aside0.mk hB.size
  have HB := Aside0.mk hB
  clear hB
  have H : ((spec_l20Rd_pick.f k s0_0 s0_1 24).bind fun bt116 => ((spec_l20Rd_pick.f k s0_0 bt116.2 256).bind fun bt118 => ((some (([wrap64 (bt116.1 - 12), wrap64 (bt118.1 * 999), 1000000000, (-1000000000)] : List Int) : List Int)).bind fun y120 => ((some (([0, 0, 0, 1, 2, 3] : List Int) : List Int)).bind fun y123 => ((spec_l20Rd_pick.f k s0_0 bt118.2 6).bind fun bt126 => (if 0 ≤ bt126.1 then (if bt126.1 < (y123.length : Int) then (if 0 ≤ (rd y123 bt126.1) then (if (rd y123 bt126.1) < (y120.length : Int) then ((spec_l20Rd_pick.f k s0_0 bt126.2 9).bind fun bt130 => ((some (([2, 4, 10, 100, 1000, 1000000] : List Int) : List Int)).bind fun y132 => ((spec_l20Rd_pick.f k s0_0 bt130.2 6).bind fun bt135 => (if 0 ≤ bt135.1 then (if bt135.1 < (y132.length : Int) then ((some (([1, wrap64 (1 + bt130.1), rd y132 bt135.1, 3] : List Int) : List Int)).bind fun y138 => ((spec_l20Rd_pick.f k s0_0 bt135.2 4).bind fun bt141 => (if 0 ≤ bt141.1 then (if bt141.1 < (y138.length : Int) then ((spec_l2Gcd.f k (rd y120 (rd y123 bt126.1)) (rd y138 bt141.1)).bind fun t144 => (if t144 = 0 then (none) else ((spec_l20Rd_odd.f k s0_0 bt141.2 a1).bind fun bt146 => (if bt146.1 = true then ((some (([(⟨2, 4⟩ : S24), (⟨1, 0⟩ : S24), (⟨1000000001, 1⟩ : S24), (⟨1, 1000001⟩ : S24), (⟨1, (-1)⟩ : S24), (⟨0, 0⟩ : S24)] : List (S24)) : List (S24))).bind fun y148 => ((spec_l20Rd_pick.f k s0_0 bt146.2 6).bind fun bt151 => (if 0 ≤ bt151.1 then (if bt151.1 < (y148.length : Int) then (some ((rd_T24 y148 bt151.1).f0, (rd_T24 y148 bt151.1).f1, bt151.2)) else (none)) else (none)))) else (some (wrap64 (Int.tdiv (rd y120 (rd y123 bt126.1)) t144), wrap64 (Int.tdiv (rd y138 bt141.1) t144), bt146.2)))))) else (none)) else (none)))) else (none)) else (none))))) else (none)) else (none)) else (none)) else (none))))))) = some (r1, r2, r3) := h
  clear h
  replace H := Option.bind_eq_some_iff.mp H
  obtain ⟨⟨t116, t117⟩, A30, H⟩ := H
  replace H : ((spec_l20Rd_pick.f k s0_0 t117 256).bind fun bt118 => ((some (([wrap64 (t116 - 12), wrap64 (bt118.1 * 999), 1000000000, (-1000000000)] : List Int) : List Int)).bind fun y120 => ((some (([0, 0, 0, 1, 2, 3] : List Int) : List Int)).bind fun y123 => ((spec_l20Rd_pick.f k s0_0 bt118.2 6).bind fun bt126 => (if 0 ≤ bt126.1 then (if bt126.1 < (y123.length : Int) then (if 0 ≤ (rd y123 bt126.1) then (if (rd y123 bt126.1) < (y120.length : Int) then ((spec_l20Rd_pick.f k s0_0 bt126.2 9).bind fun bt130 => ((some (([2, 4, 10, 100, 1000, 1000000] : List Int) : List Int)).bind fun y132 => ((spec_l20Rd_pick.f k s0_0 bt130.2 6).bind fun bt135 => (if 0 ≤ bt135.1 then (if bt135.1 < (y132.length : Int) then ((some (([1, wrap64 (1 + bt130.1), rd y132 bt135.1, 3] : List Int) : List Int)).bind fun y138 => ((spec_l20Rd_pick.f k s0_0 bt135.2 4).bind fun bt141 => (if 0 ≤ bt141.1 then (if bt141.1 < (y138.length : Int) then ((spec_l2Gcd.f k (rd y120 (rd y123 bt126.1)) (rd y138 bt141.1)).bind fun t144 => (if t144 = 0 then (none) else ((spec_l20Rd_odd.f k s0_0 bt141.2 a1).bind fun bt146 => (if bt146.1 = true then ((some (([(⟨2, 4⟩ : S24), (⟨1, 0⟩ : S24), (⟨1000000001, 1⟩ : S24), (⟨1, 1000001⟩ : S24), (⟨1, (-1)⟩ : S24), (⟨0, 0⟩ : S24)] : List (S24)) : List (S24))).bind fun y148 => ((spec_l20Rd_pick.f k s0_0 bt146.2 6).bind fun bt151 => (if 0 ≤ bt151.1 then (if bt151.1 < (y148.length : Int) then (some ((rd_T24 y148 bt151.1).f0, (rd_T24 y148 bt151.1).f1, bt151.2)) else (none)) else (none)))) else (some (wrap64 (Int.tdiv (rd y120 (rd y123 bt126.1)) t144), wrap64 (Int.tdiv (rd y138 bt141.1) t144), bt146.2)))))) else (none)) else (none)))) else (none)) else (none))))) else (none)) else (none)) else (none)) else (none)))))) = some (r1, r2, r3) := H
  have A3 := Aside0.mk A30
  clear A30
  replace H := Option.bind_eq_some_iff.mp H
  obtain ⟨⟨t118, t119⟩, A40, H⟩ := H
  replace H : ((some (([wrap64 (t116 - 12), wrap64 (t118 * 999), 1000000000, (-1000000000)] : List Int) : List Int)).bind fun y120 => ((some (([0, 0, 0, 1, 2, 3] : List Int) : List Int)).bind fun y123 => ((spec_l20Rd_pick.f k s0_0 t119 6).bind fun bt126 => (if 0 ≤ bt126.1 then (if bt126.1 < (y123.length : Int) then (if 0 ≤ (rd y123 bt126.1) then (if (rd y123 bt126.1) < (y120.length : Int) then ((spec_l20Rd_pick.f k s0_0 bt126.2 9).bind fun bt130 => ((some (([2, 4, 10, 100, 1000, 1000000] : List Int) : List Int)).bind fun y132 => ((spec_l20Rd_pick.f k s0_0 bt130.2 6).bind fun bt135 => (if 0 ≤ bt135.1 then (if bt135.1 < (y132.length : Int) then ((some (([1, wrap64 (1 + bt130.1), rd y132 bt135.1, 3] : List Int) : List Int)).bind fun y138 => ((spec_l20Rd_pick.f k s0_0 bt135.2 4).bind fun bt141 => (if 0 ≤ bt141.1 then (if bt141.1 < (y138.length : Int) then ((spec_l2Gcd.f k (rd y120 (rd y123 bt126.1)) (rd y138 bt141.1)).bind fun t144 => (if t144 = 0 then (none) else ((spec_l20Rd_odd.f k s0_0 bt141.2 a1).bind fun bt146 => (if bt146.1 = true then ((some (([(⟨2, 4⟩ : S24), (⟨1, 0⟩ : S24), (⟨1000000001, 1⟩ : S24), (⟨1, 1000001⟩ : S24), (⟨1, (-1)⟩ : S24), (⟨0, 0⟩ : S24)] : List (S24)) : List (S24))).bind fun y148 => ((spec_l20Rd_pick.f k s0_0 bt146.2 6).bind fun bt151 => (if 0 ≤ bt151.1 then (if bt151.1 < (y148.length : Int) then (some ((rd_T24 y148 bt151.1).f0, (rd_T24 y148 bt151.1).f1, bt151.2)) else (none)) else (none)))) else (some (wrap64 (Int.tdiv (rd y120 (rd y123 bt126.1)) t144), wrap64 (Int.tdiv (rd y138 bt141.1) t144), bt146.2)))))) else (none)) else (none)))) else (none)) else (none))))) else (none)) else (none)) else (none)) else (none))))) = some (r1, r2, r3) := H
  have A4 := Aside0.mk A40
  clear A40
  obtain ⟨y120, hy120⟩ : ∃ y_ : List Int, y_ = (([wrap64 (t116 - 12), wrap64 (t118 * 999), 1000000000, (-1000000000)] : List Int)) := ⟨_, rfl⟩
  replace H : ((some (([0, 0, 0, 1, 2, 3] : List Int) : List Int)).bind fun y123 => ((spec_l20Rd_pick.f k s0_0 t119 6).bind fun bt126 => (if 0 ≤ bt126.1 then (if bt126.1 < (y123.length : Int) then (if 0 ≤ (rd y123 bt126.1) then (if (rd y123 bt126.1) < (y120.length : Int) then ((spec_l20Rd_pick.f k s0_0 bt126.2 9).bind fun bt130 => ((some (([2, 4, 10, 100, 1000, 1000000] : List Int) : List Int)).bind fun y132 => ((spec_l20Rd_pick.f k s0_0 bt130.2 6).bind fun bt135 => (if 0 ≤ bt135.1 then (if bt135.1 < (y132.length : Int) then ((some (([1, wrap64 (1 + bt130.1), rd y132 bt135.1, 3] : List Int) : List Int)).bind fun y138 => ((spec_l20Rd_pick.f k s0_0 bt135.2 4).bind fun bt141 => (if 0 ≤ bt141.1 then (if bt141.1 < (y138.length : Int) then ((spec_l2Gcd.f k (rd y120 (rd y123 bt126.1)) (rd y138 bt141.1)).bind fun t144 => (if t144 = 0 then (none) else ((spec_l20Rd_odd.f k s0_0 bt141.2 a1).bind fun bt146 => (if bt146.1 = true then ((some (([(⟨2, 4⟩ : S24), (⟨1, 0⟩ : S24), (⟨1000000001, 1⟩ : S24), (⟨1, 1000001⟩ : S24), (⟨1, (-1)⟩ : S24), (⟨0, 0⟩ : S24)] : List (S24)) : List (S24))).bind fun y148 => ((spec_l20Rd_pick.f k s0_0 bt146.2 6).bind fun bt151 => (if 0 ≤ bt151.1 then (if bt151.1 < (y148.length : Int) then (some ((rd_T24 y148 bt151.1).f0, (rd_T24 y148 bt151.1).f1, bt151.2)) else (none)) else (none)))) else (some (wrap64 (Int.tdiv (rd y120 (rd y123 bt126.1)) t144), wrap64 (Int.tdiv (rd y138 bt141.1) t144), bt146.2)))))) else (none)) else (none)))) else (none)) else (none))))) else (none)) else (none)) else (none)) else (none)))) = some (r1, r2, r3) := by first | (rw [hy120]; with_reducible exact H) | (have H2_ := (Option.bind_some _ _).symm.trans H; rw [hy120]; with_reducible exact H2_) | (have H2_ := (Option.bind_some _ _).symm.trans H; with_reducible exact H2_) | with_reducible exact H | (rw [hy120]; exact H) | exact H
  have Ny120 := Aside0.mk hy120
  clear hy120
  obtain ⟨y123, hy123⟩ : ∃ y_ : List Int, y_ = (([0, 0, 0, 1, 2, 3] : List Int)) := ⟨_, rfl⟩
  replace H : ((spec_l20Rd_pick.f k s0_0 t119 6).bind fun bt126 => (if 0 ≤ bt126.1 then (if bt126.1 < (y123.length : Int) then (if 0 ≤ (rd y123 bt126.1) then (if (rd y123 bt126.1) < (y120.length : Int) then ((spec_l20Rd_pick.f k s0_0 bt126.2 9).bind fun bt130 => ((some (([2, 4, 10, 100, 1000, 1000000] : List Int) : List Int)).bind fun y132 => ((spec_l20Rd_pick.f k s0_0 bt130.2 6).bind fun bt135 => (if 0 ≤ bt135.1 then (if bt135.1 < (y132.length : Int) then ((some (([1, wrap64 (1 + bt130.1), rd y132 bt135.1, 3] : List Int) : List Int)).bind fun y138 => ((spec_l20Rd_pick.f k s0_0 bt135.2 4).bind fun bt141 => (if 0 ≤ bt141.1 then (if bt141.1 < (y138.length : Int) then ((spec_l2Gcd.f k (rd y120 (rd y123 bt126.1)) (rd y138 bt141.1)).bind fun t144 => (if t144 = 0 then (none) else ((spec_l20Rd_odd.f k s0_0 bt141.2 a1).bind fun bt146 => (if bt146.1 = true then ((some (([(⟨2, 4⟩ : S24), (⟨1, 0⟩ : S24), (⟨1000000001, 1⟩ : S24), (⟨1, 1000001⟩ : S24), (⟨1, (-1)⟩ : S24), (⟨0, 0⟩ : S24)] : List (S24)) : List (S24))).bind fun y148 => ((spec_l20Rd_pick.f k s0_0 bt146.2 6).bind fun bt151 => (if 0 ≤ bt151.1 then (if bt151.1 < (y148.length : Int) then (some ((rd_T24 y148 bt151.1).f0, (rd_T24 y148 bt151.1).f1, bt151.2)) else (none)) else (none)))) else (some (wrap64 (Int.tdiv (rd y120 (rd y123 bt126.1)) t144), wrap64 (Int.tdiv (rd y138 bt141.1) t144), bt146.2)))))) else (none)) else (none)))) else (none)) else (none))))) else (none)) else (none)) else (none)) else (none))) = some (r1, r2, r3) := by first | (rw [hy123]; with_reducible exact H) | (have H2_ := (Option.bind_some _ _).symm.trans H; rw [hy123]; with_reducible exact H2_) | (have H2_ := (Option.bind_some _ _).symm.trans H; with_reducible exact H2_) | with_reducible exact H | (rw [hy123]; exact H) | exact H
  have Ny123 := Aside0.mk hy123
  clear hy123
  replace H := Option.bind_eq_some_iff.mp H
  obtain ⟨⟨t126, t127⟩, A50, H⟩ := H
  replace H : (if 0 ≤ t126 then (if t126 < (y123.length : Int) then (if 0 ≤ (rd y123 t126) then (if (rd y123 t126) < (y120.length : Int) then ((spec_l20Rd_pick.f k s0_0 t127 9).bind fun bt130 => ((some (([2, 4, 10, 100, 1000, 1000000] : List Int) : List Int)).bind fun y132 => ((spec_l20Rd_pick.f k s0_0 bt130.2 6).bind fun bt135 => (if 0 ≤ bt135.1 then (if bt135.1 < (y132.length : Int) then ((some (([1, wrap64 (1 + bt130.1), rd y132 bt135.1, 3] : List Int) : List Int)).bind fun y138 => ((spec_l20Rd_pick.f k s0_0 bt135.2 4).bind fun bt141 => (if 0 ≤ bt141.1 then (if bt141.1 < (y138.length : Int) then ((spec_l2Gcd.f k (rd y120 (rd y123 t126)) (rd y138 bt141.1)).bind fun t144 => (if t144 = 0 then (none) else ((spec_l20Rd_odd.f k s0_0 bt141.2 a1).bind fun bt146 => (if bt146.1 = true then ((some (([(⟨2, 4⟩ : S24), (⟨1, 0⟩ : S24), (⟨1000000001, 1⟩ : S24), (⟨1, 1000001⟩ : S24), (⟨1, (-1)⟩ : S24), (⟨0, 0⟩ : S24)] : List (S24)) : List (S24))).bind fun y148 => ((spec_l20Rd_pick.f k s0_0 bt146.2 6).bind fun bt151 => (if 0 ≤ bt151.1 then (if bt151.1 < (y148.length : Int) then (some ((rd_T24 y148 bt151.1).f0, (rd_T24 y148 bt151.1).f1, bt151.2)) else (none)) else (none)))) else (some (wrap64 (Int.tdiv (rd y120 (rd y123 t126)) t144), wrap64 (Int.tdiv (rd y138 bt141.1) t144), bt146.2)))))) else (none)) else (none)))) else (none)) else (none))))) else (none)) else (none)) else (none)) else (none)) = some (r1, r2, r3) := H
  have A5 := Aside0.mk A50
  clear A50
  by_cases c6 : 0 ≤ t126
  · rw [if_pos c6] at H
    have c6b0 : decide (0 ≤ t126) = true := decide_eq_true c6
    clear c6
    by_cases c7 : t126 < (y123.length : Int)
    · rw [if_pos c7] at H
      have c7b0 : decide (t126 < (y123.length : Int)) = true := decide_eq_true c7
      clear c7
      by_cases c8 : 0 ≤ (rd y123 t126)
      · rw [if_pos c8] at H
        have c8b0 : decide (0 ≤ (rd y123 t126)) = true := decide_eq_true c8
        clear c8
        by_cases c9 : (rd y123 t126) < (y120.length : Int)
        · rw [if_pos c9] at H
          have c9b0 : decide ((rd y123 t126) < (y120.length : Int)) = true := decide_eq_true c9
          clear c9
          replace H := Option.bind_eq_some_iff.mp H
          obtain ⟨⟨t130, t131⟩, A100, H⟩ := H
          replace H : ((some (([2, 4, 10, 100, 1000, 1000000] : List Int) : List Int)).bind fun y132 => ((spec_l20Rd_pick.f k s0_0 t131 6).bind fun bt135 => (if 0 ≤ bt135.1 then (if bt135.1 < (y132.length : Int) then ((some (([1, wrap64 (1 + t130), rd y132 bt135.1, 3] : List Int) : List Int)).bind fun y138 => ((spec_l20Rd_pick.f k s0_0 bt135.2 4).bind fun bt141 => (if 0 ≤ bt141.1 then (if bt141.1 < (y138.length : Int) then ((spec_l2Gcd.f k (rd y120 (rd y123 t126)) (rd y138 bt141.1)).bind fun t144 => (if t144 = 0 then (none) else ((spec_l20Rd_odd.f k s0_0 bt141.2 a1).bind fun bt146 => (if bt146.1 = true then ((some (([(⟨2, 4⟩ : S24), (⟨1, 0⟩ : S24), (⟨1000000001, 1⟩ : S24), (⟨1, 1000001⟩ : S24), (⟨1, (-1)⟩ : S24), (⟨0, 0⟩ : S24)] : List (S24)) : List (S24))).bind fun y148 => ((spec_l20Rd_pick.f k s0_0 bt146.2 6).bind fun bt151 => (if 0 ≤ bt151.1 then (if bt151.1 < (y148.length : Int) then (some ((rd_T24 y148 bt151.1).f0, (rd_T24 y148 bt151.1).f1, bt151.2)) else (none)) else (none)))) else (some (wrap64 (Int.tdiv (rd y120 (rd y123 t126)) t144), wrap64 (Int.tdiv (rd y138 bt141.1) t144), bt146.2)))))) else (none)) else (none)))) else (none)) else (none)))) = some (r1, r2, r3) := H
          have A10 := Aside0.mk A100
          clear A100
          obtain ⟨y132, hy132⟩ : ∃ y_ : List Int, y_ = (([2, 4, 10, 100, 1000, 1000000] : List Int)) := ⟨_, rfl⟩
          replace H : ((spec_l20Rd_pick.f k s0_0 t131 6).bind fun bt135 => (if 0 ≤ bt135.1 then (if bt135.1 < (y132.length : Int) then ((some (([1, wrap64 (1 + t130), rd y132 bt135.1, 3] : List Int) : List Int)).bind fun y138 => ((spec_l20Rd_pick.f k s0_0 bt135.2 4).bind fun bt141 => (if 0 ≤ bt141.1 then (if bt141.1 < (y138.length : Int) then ((spec_l2Gcd.f k (rd y120 (rd y123 t126)) (rd y138 bt141.1)).bind fun t144 => (if t144 = 0 then (none) else ((spec_l20Rd_odd.f k s0_0 bt141.2 a1).bind fun bt146 => (if bt146.1 = true then ((some (([(⟨2, 4⟩ : S24), (⟨1, 0⟩ : S24), (⟨1000000001, 1⟩ : S24), (⟨1, 1000001⟩ : S24), (⟨1, (-1)⟩ : S24), (⟨0, 0⟩ : S24)] : List (S24)) : List (S24))).bind fun y148 => ((spec_l20Rd_pick.f k s0_0 bt146.2 6).bind fun bt151 => (if 0 ≤ bt151.1 then (if bt151.1 < (y148.length : Int) then (some ((rd_T24 y148 bt151.1).f0, (rd_T24 y148 bt151.1).f1, bt151.2)) else (none)) else (none)))) else (some (wrap64 (Int.tdiv (rd y120 (rd y123 t126)) t144), wrap64 (Int.tdiv (rd y138 bt141.1) t144), bt146.2)))))) else (none)) else (none)))) else (none)) else (none))) = some (r1, r2, r3) := by first | (rw [hy132]; with_reducible exact H) | (have H2_ := (Option.bind_some _ _).symm.trans H; rw [hy132]; with_reducible exact H2_) | (have H2_ := (Option.bind_some _ _).symm.trans H; with_reducible exact H2_) | with_reducible exact H | (rw [hy132]; exact H) | exact H
          have Ny132 := Aside0.mk hy132
          clear hy132
          replace H := Option.bind_eq_some_iff.mp H
          obtain ⟨⟨t135, t136⟩, A110, H⟩ := H
          replace H : (if 0 ≤ t135 then (if t135 < (y132.length : Int) then ((some (([1, wrap64 (1 + t130), rd y132 t135, 3] : List Int) : List Int)).bind fun y138 => ((spec_l20Rd_pick.f k s0_0 t136 4).bind fun bt141 => (if 0 ≤ bt141.1 then (if bt141.1 < (y138.length : Int) then ((spec_l2Gcd.f k (rd y120 (rd y123 t126)) (rd y138 bt141.1)).bind fun t144 => (if t144 = 0 then (none) else ((spec_l20Rd_odd.f k s0_0 bt141.2 a1).bind fun bt146 => (if bt146.1 = true then ((some (([(⟨2, 4⟩ : S24), (⟨1, 0⟩ : S24), (⟨1000000001, 1⟩ : S24), (⟨1, 1000001⟩ : S24), (⟨1, (-1)⟩ : S24), (⟨0, 0⟩ : S24)] : List (S24)) : List (S24))).bind fun y148 => ((spec_l20Rd_pick.f k s0_0 bt146.2 6).bind fun bt151 => (if 0 ≤ bt151.1 then (if bt151.1 < (y148.length : Int) then (some ((rd_T24 y148 bt151.1).f0, (rd_T24 y148 bt151.1).f1, bt151.2)) else (none)) else (none)))) else (some (wrap64 (Int.tdiv (rd y120 (rd y123 t126)) t144), wrap64 (Int.tdiv (rd y138 bt141.1) t144), bt146.2)))))) else (none)) else (none)))) else (none)) else (none)) = some (r1, r2, r3) := H
          have A11 := Aside0.mk A110
          clear A110
          by_cases c12 : 0 ≤ t135
          · rw [if_pos c12] at H
            have c12b0 : decide (0 ≤ t135) = true := decide_eq_true c12
            clear c12
            by_cases c13 : t135 < (y132.length : Int)
            · rw [if_pos c13] at H
              have c13b0 : decide (t135 < (y132.length : Int)) = true := decide_eq_true c13
              clear c13
              obtain ⟨y138, hy138⟩ : ∃ y_ : List Int, y_ = (([1, wrap64 (1 + t130), rd y132 t135, 3] : List Int)) := ⟨_, rfl⟩
              replace H : ((spec_l20Rd_pick.f k s0_0 t136 4).bind fun bt141 => (if 0 ≤ bt141.1 then (if bt141.1 < (y138.length : Int) then ((spec_l2Gcd.f k (rd y120 (rd y123 t126)) (rd y138 bt141.1)).bind fun t144 => (if t144 = 0 then (none) else ((spec_l20Rd_odd.f k s0_0 bt141.2 a1).bind fun bt146 => (if bt146.1 = true then ((some (([(⟨2, 4⟩ : S24), (⟨1, 0⟩ : S24), (⟨1000000001, 1⟩ : S24), (⟨1, 1000001⟩ : S24), (⟨1, (-1)⟩ : S24), (⟨0, 0⟩ : S24)] : List (S24)) : List (S24))).bind fun y148 => ((spec_l20Rd_pick.f k s0_0 bt146.2 6).bind fun bt151 => (if 0 ≤ bt151.1 then (if bt151.1 < (y148.length : Int) then (some ((rd_T24 y148 bt151.1).f0, (rd_T24 y148 bt151.1).f1, bt151.2)) else (none)) else (none)))) else (some (wrap64 (Int.tdiv (rd y120 (rd y123 t126)) t144), wrap64 (Int.tdiv (rd y138 bt141.1) t144), bt146.2)))))) else (none)) else (none))) = some (r1, r2, r3) := by first | (rw [hy138]; with_reducible exact H) | (have H2_ := (Option.bind_some _ _).symm.trans H; rw [hy138]; with_reducible exact H2_) | (have H2_ := (Option.bind_some _ _).symm.trans H; with_reducible exact H2_) | with_reducible exact H | (rw [hy138]; exact H) | exact H
              have Ny138 := Aside0.mk hy138
              clear hy138
              replace H := Option.bind_eq_some_iff.mp H
              obtain ⟨⟨t141, t142⟩, A140, H⟩ := H
              replace H : (if 0 ≤ t141 then (if t141 < (y138.length : Int) then ((spec_l2Gcd.f k (rd y120 (rd y123 t126)) (rd y138 t141)).bind fun t144 => (if t144 = 0 then (none) else ((spec_l20Rd_odd.f k s0_0 t142 a1).bind fun bt146 => (if bt146.1 = true then ((some (([(⟨2, 4⟩ : S24), (⟨1, 0⟩ : S24), (⟨1000000001, 1⟩ : S24), (⟨1, 1000001⟩ : S24), (⟨1, (-1)⟩ : S24), (⟨0, 0⟩ : S24)] : List (S24)) : List (S24))).bind fun y148 => ((spec_l20Rd_pick.f k s0_0 bt146.2 6).bind fun bt151 => (if 0 ≤ bt151.1 then (if bt151.1 < (y148.length : Int) then (some ((rd_T24 y148 bt151.1).f0, (rd_T24 y148 bt151.1).f1, bt151.2)) else (none)) else (none)))) else (some (wrap64 (Int.tdiv (rd y120 (rd y123 t126)) t144), wrap64 (Int.tdiv (rd y138 t141) t144), bt146.2)))))) else (none)) else (none)) = some (r1, r2, r3) := H
              have A14 := Aside0.mk A140
              clear A140
              by_cases c15 : 0 ≤ t141
              · rw [if_pos c15] at H
                have c15b0 : decide (0 ≤ t141) = true := decide_eq_true c15
                clear c15
                by_cases c16 : t141 < (y138.length : Int)
                · rw [if_pos c16] at H
                  have c16b0 : decide (t141 < (y138.length : Int)) = true := decide_eq_true c16
                  clear c16
                  replace H := Option.bind_eq_some_iff.mp H
                  obtain ⟨t144, A170, H⟩ := H
                  replace H : (if t144 = 0 then (none) else ((spec_l20Rd_odd.f k s0_0 t142 a1).bind fun bt146 => (if bt146.1 = true then ((some (([(⟨2, 4⟩ : S24), (⟨1, 0⟩ : S24), (⟨1000000001, 1⟩ : S24), (⟨1, 1000001⟩ : S24), (⟨1, (-1)⟩ : S24), (⟨0, 0⟩ : S24)] : List (S24)) : List (S24))).bind fun y148 => ((spec_l20Rd_pick.f k s0_0 bt146.2 6).bind fun bt151 => (if 0 ≤ bt151.1 then (if bt151.1 < (y148.length : Int) then (some ((rd_T24 y148 bt151.1).f0, (rd_T24 y148 bt151.1).f1, bt151.2)) else (none)) else (none)))) else (some (wrap64 (Int.tdiv (rd y120 (rd y123 t126)) t144), wrap64 (Int.tdiv (rd y138 t141) t144), bt146.2))))) = some (r1, r2, r3) := H
                  have A17 := Aside0.mk A170
                  clear A170
                  by_cases c18 : t144 = 0
                  · rw [if_pos c18] at H
                    exact absurd H (by simp)
                  · rw [if_neg c18] at H
                    have c18b0 : (t144 == 0) = false := beq_eq_false_iff_ne.mpr c18
                    have c18b1 : (t144 != 0) = true := bne_iff_ne.mpr c18
                    replace H := Option.bind_eq_some_iff.mp H
                    obtain ⟨⟨t146, t147⟩, A190, H⟩ := H
                    replace H : (if t146 = true then ((some (([(⟨2, 4⟩ : S24), (⟨1, 0⟩ : S24), (⟨1000000001, 1⟩ : S24), (⟨1, 1000001⟩ : S24), (⟨1, (-1)⟩ : S24), (⟨0, 0⟩ : S24)] : List (S24)) : List (S24))).bind fun y148 => ((spec_l20Rd_pick.f k s0_0 t147 6).bind fun bt151 => (if 0 ≤ bt151.1 then (if bt151.1 < (y148.length : Int) then (some ((rd_T24 y148 bt151.1).f0, (rd_T24 y148 bt151.1).f1, bt151.2)) else (none)) else (none)))) else (some (wrap64 (Int.tdiv (rd y120 (rd y123 t126)) t144), wrap64 (Int.tdiv (rd y138 t141) t144), t147))) = some (r1, r2, r3) := H
                    have A19 := Aside0.mk A190
                    clear A190
                    by_cases c20 : t146 = true
                    · subst c20
                      have H1 : ((some (([(⟨2, 4⟩ : S24), (⟨1, 0⟩ : S24), (⟨1000000001, 1⟩ : S24), (⟨1, 1000001⟩ : S24), (⟨1, (-1)⟩ : S24), (⟨0, 0⟩ : S24)] : List (S24)) : List (S24))).bind fun y148 => ((spec_l20Rd_pick.f k s0_0 t147 6).bind fun bt151 => (if 0 ≤ bt151.1 then (if bt151.1 < (y148.length : Int) then (some ((rd_T24 y148 bt151.1).f0, (rd_T24 y148 bt151.1).f1, bt151.2)) else (none)) else (none)))) = some (r1, r2, r3) := by rw [if_pos rfl] at H; exact H
                      clear H
                      have H := H1
                      clear H1
                      obtain ⟨y148, hy148⟩ : ∃ y_ : List (S24), y_ = (([(⟨2, 4⟩ : S24), (⟨1, 0⟩ : S24), (⟨1000000001, 1⟩ : S24), (⟨1, 1000001⟩ : S24), (⟨1, (-1)⟩ : S24), (⟨0, 0⟩ : S24)] : List (S24))) := ⟨_, rfl⟩
                      replace H : ((spec_l20Rd_pick.f k s0_0 t147 6).bind fun bt151 => (if 0 ≤ bt151.1 then (if bt151.1 < (y148.length : Int) then (some ((rd_T24 y148 bt151.1).f0, (rd_T24 y148 bt151.1).f1, bt151.2)) else (none)) else (none))) = some (r1, r2, r3) := by first | (rw [hy148]; with_reducible exact H) | (have H2_ := (Option.bind_some _ _).symm.trans H; rw [hy148]; with_reducible exact H2_) | (have H2_ := (Option.bind_some _ _).symm.trans H; with_reducible exact H2_) | with_reducible exact H | (rw [hy148]; exact H) | exact H
                      have Ny148 := Aside0.mk hy148
                      clear hy148
                      replace H := Option.bind_eq_some_iff.mp H
                      obtain ⟨⟨t151, t152⟩, A210, H⟩ := H
                      replace H : (if 0 ≤ t151 then (if t151 < (y148.length : Int) then (some ((rd_T24 y148 t151).f0, (rd_T24 y148 t151).f1, t152)) else (none)) else (none)) = some (r1, r2, r3) := H
                      have A21 := Aside0.mk A210
                      clear A210
                      by_cases c22 : 0 ≤ t151
                      · rw [if_pos c22] at H
                        have c22b0 : decide (0 ≤ t151) = true := decide_eq_true c22
                        clear c22
                        by_cases c23 : t151 < (y148.length : Int)
                        · rw [if_pos c23] at H
                          have c23b0 : decide (t151 < (y148.length : Int)) = true := decide_eq_true c23
                          clear c23
                          simp only [Option.some.injEq, Prod.mk.injEq] at H
                          obtain ⟨rfl, rfl, rfl⟩ := H
                          go_enter Try.func29, Try.ntmps29
                          try go_wp2_with (first | ((with_reducible refine gate_dst (N := 4) rfl ?_); refine box_event ?hg (N := 4) ?hd (cs := #[.int .i64 0, .int .i64 0]) (t := 24) ?hr ?_; (case hd => rfl); (case hg => rfl); (case hr => first | (go_simp; done) | (go_simp; rfl)); intro gb115 hg w24 hbox hb; have n0_ := Aside0.mk (IsS50.below (by repeat (first | (with_reducible first | exact HI0.out | apply IsS50.alloc | apply IsS50.drewN | apply IsS50.drew | apply IsS50.set_1) | exact HI0.out)) hb); have n1_ := Aside0.mk (KeepBut.trans (by repeat (first | (with_reducible first | exact HK.out | apply KeepBut.set_ | apply keep_drewN | apply keep_drew | apply keep_alloc) | exact HK.out)) (KeepBut.of_below hb g none) (.inl rfl)); have n2_ := Aside0.mk (below_step (by repeat (first | (with_reducible first | exact HB.out | apply below_alloc | apply pw_below_drewN | apply below_drew1 | refine below_set ?_ (IsS50.ge HI0.out)) | exact HB.out)) hb); have n3_ := Aside0.mk (hbox); have n4_ := Aside0.mk ((by rw [hg]; exact (keep_size (w := w) (g := g) (row := none) (by repeat (first | (with_reducible first | exact HK.out | apply KeepBut.set_ | apply keep_drewN | apply keep_drew | apply keep_alloc) | exact HK.out))) : w.heap.size ≤ gb115)); have n5_ := Aside0.mk ((Nat.le_trans HW0.out (by rw [hg]; exact (keep_size (w := w) (g := g) (row := none) (by repeat (first | (with_reducible first | exact HK.out | apply KeepBut.set_ | apply keep_drewN | apply keep_drew | apply keep_alloc) | exact HK.out))) : w.heap.size ≤ gb115) : w0.heap.size ≤ gb115)); have n6_ := Aside0.mk ((by rw [hg]; exact Nat.ne_of_lt (IsS50.lt (show IsS50 w0 _ g s0_0 s0_1 from by repeat (first | (with_reducible first | exact HI0.out | apply IsS50.alloc | apply IsS50.drewN | apply IsS50.drew | apply IsS50.set_1) | exact HI0.out))) : g ≠ gb115)); have n7_ := Aside0.mk ((by rw [hg]; exact Nat.ne_of_gt (IsS50.lt (show IsS50 w0 _ g s0_0 s0_1 from by repeat (first | (with_reducible first | exact HI0.out | apply IsS50.alloc | apply IsS50.drewN | apply IsS50.drew | apply IsS50.set_1) | exact HI0.out))) : gb115 ≠ g)); clear HI0; clear HK; clear HB; have HI0 := n0_; have HK := n1_; have HB := n2_; have BK115 := n3_; have GW115 := n4_; have GE115 := n5_; have NB0_115 := n6_; have NB115_0 := n7_; clear n0_ n1_ n2_ n3_ n4_ n5_ n6_ n7_; clear hb hbox hg) | ((with_reducible refine gate_callee (f := 30) rfl ?_); refine goesL_ (some 10) rfl rfl Try.func30 (by kernel_rfl) rfl #[.pointer (some ⟨g, 0, none⟩), .int .i64 24] rfl (by (try simp only [List.map_toArray, List.map_cons, List.map_nil]); first | done | rfl | (simp only [List.length_drop, List.length_take]; rfl)) ?_; (with_reducible refine (spec_l20Rd_pick.calls k g s0_0 s0_1 24 t116 t117 w0 _ ?side1 ?side2 A3.out).mono ?_); (case side1 => repeat (first | (with_reducible first | exact HI0.out | apply IsS50.alloc | apply IsS50.drewN | apply IsS50.drew | apply IsS50.set_1 | refine IsS50.far ?_ NB0_115.out _) | exact HI0.out)); (case side2 => repeat (first | (with_reducible first | exact HB.out | apply below_alloc | apply pw_below_drewN | apply below_drew1 | refine below_set ?_ (IsS50.ge HI0.out) | refine below_set ?_ GE115.out) | exact HB.out)); rintro e w25 ⟨rfl, hi, hb, hk⟩; refine ⟨_, rfl, ?_⟩; have n0_ := Aside0.mk (KeepBut.blk hk (g' := gb115) (o := .cells #[.int .i64 0, .int .i64 0] 24 (0, 0)) (by (with_reducible repeat (first | refine blk_drewN ?_ _ | refine blk_drew ?_ | refine blk_alloc ?_ _)); exact BK115.out) NB115_0.out (by simp)); have n1_ := Aside0.mk (KeepBut.trans (by repeat (first | (with_reducible first | exact HK.out | apply KeepBut.set_ | apply keep_drewN | apply keep_drew | apply keep_alloc | refine keep_far ?_ GW115.out _) | exact HK.out)) hk (.inl rfl)); have n2_ := Aside0.mk (hb); have n3_ := Aside0.mk (hi); clear BK115; clear HK; clear HB; clear HI0; have BK115 := n0_; have HK := n1_; have HB := n2_; have HI0 := n3_; clear n0_ n1_ n2_ n3_; (try clear hb); (try clear hb2); (try clear hk); (try clear hi)) | ((with_reducible refine gate_callee (f := 30) rfl ?_); refine goesL_ (some 13) rfl rfl Try.func30 (by kernel_rfl) rfl #[.pointer (some ⟨g, 0, none⟩), .int .i64 256] rfl (by (try simp only [List.map_toArray, List.map_cons, List.map_nil]); first | done | rfl | (simp only [List.length_drop, List.length_take]; rfl)) ?_; (with_reducible refine (spec_l20Rd_pick.calls k g s0_0 t117 256 t118 t119 w0 _ ?side1 ?side2 A4.out).mono ?_); (case side1 => repeat (first | (with_reducible first | exact HI0.out | apply IsS50.alloc | apply IsS50.drewN | apply IsS50.drew | apply IsS50.set_1 | refine IsS50.far ?_ NB0_115.out _) | exact HI0.out)); (case side2 => repeat (first | (with_reducible first | exact HB.out | apply below_alloc | apply pw_below_drewN | apply below_drew1 | refine below_set ?_ (IsS50.ge HI0.out) | refine below_set ?_ GE115.out) | exact HB.out)); rintro e w26 ⟨rfl, hi, hb, hk⟩; refine ⟨_, rfl, ?_⟩; have n0_ := Aside0.mk (KeepBut.blk hk (g' := gb115) (o := .cells #[.int .i64 0, .int .i64 0] 24 (0, 0)) (by (with_reducible repeat (first | refine blk_drewN ?_ _ | refine blk_drew ?_ | refine blk_alloc ?_ _)); exact BK115.out) NB115_0.out (by simp)); have n1_ := Aside0.mk (KeepBut.trans (by repeat (first | (with_reducible first | exact HK.out | apply KeepBut.set_ | apply keep_drewN | apply keep_drew | apply keep_alloc | refine keep_far ?_ GW115.out _) | exact HK.out)) hk (.inl rfl)); have n2_ := Aside0.mk (hb); have n3_ := Aside0.mk (hi); clear BK115; clear HK; clear HB; clear HI0; have BK115 := n0_; have HK := n1_; have HB := n2_; have HI0 := n3_; clear n0_ n1_ n2_ n3_; (try clear hb); (try clear hb2); (try clear hk); (try clear hi)) | ((with_reducible refine gate_dst (N := 15) rfl ?_); refine Kd.R_lit (Kd.int .i64) _ 3 ?hg (N := 15) ?hd (xs := ([wrap64 (t116 - 12), wrap64 (t118 * 999), 1000000000, (-1000000000)] : List Int)) (inner := [.int .i64 (wrap64 (t116 - 12)), .int .i64 (wrap64 (t118 * 999)), .int .i64 1000000000, .int .i64 (-1000000000)]) (ok := fun _ => True) (okp := fun _ => True) ?hr ?hp (fun _ hk => hk) trivial (Below.refl _ _) (Nat.le_refl _) (by simp) ?_; (case hd => rfl); (case hg => rfl); (case hr => first | (go_simp; done) | (go_simp; rfl)); (case hp => exact (Reps.one (show Kd.M (Kd.int .i64) _ _ _ (wrap64 (t116 - 12)) [.int .i64 (wrap64 (t116 - 12))] from rfl) (Reps.one (show Kd.M (Kd.int .i64) _ _ _ (wrap64 (t118 * 999)) [.int .i64 (wrap64 (t118 * 999))] from rfl) (Reps.one (show Kd.M (Kd.int .i64) _ _ _ 1000000000 [.int .i64 1000000000] from rfl) (Reps.one (show Kd.M (Kd.int .i64) _ _ _ (-1000000000) [.int .i64 (-1000000000)] from rfl) (Reps.none _ _)))))); intro v121 w27 ho28 hb hg_ hnew_; clear hg_ hnew_; (first | rw [← Ny120.out] at ho28 | (simp only [Int.reduceToNat] at ho28; rw [← Ny120.out] at ho28)); have n0_ := Aside0.mk (Kd.R_lower ho28 (keep_size (w := w) (g := g) (row := none) (by repeat (first | (with_reducible first | exact HK.out | apply KeepBut.set_ | apply keep_drewN | apply keep_drew | apply keep_alloc | refine keep_far ?_ GW115.out _) | exact HK.out)))); have n1_ := Aside0.mk (IsS50.below (by repeat (first | (with_reducible first | exact HI0.out | apply IsS50.alloc | apply IsS50.drewN | apply IsS50.drew | apply IsS50.set_1 | refine IsS50.far ?_ NB0_115.out _) | exact HI0.out)) hb); have n2_ := Aside0.mk (blk_below (g := gb115) (o := .cells #[.int .i64 0, .int .i64 0] 24 (0, 0)) (by (with_reducible repeat (first | refine blk_drewN ?_ _ | refine blk_drew ?_ | refine blk_alloc ?_ _)); exact BK115.out) hb); have n3_ := Aside0.mk (KeepBut.trans (by repeat (first | (with_reducible first | exact HK.out | apply KeepBut.set_ | apply keep_drewN | apply keep_drew | apply keep_alloc | refine keep_far ?_ GW115.out _) | exact HK.out)) (KeepBut.of_below hb g none) (.inl rfl)); have n4_ := Aside0.mk (below_step (by repeat (first | (with_reducible first | exact HB.out | apply below_alloc | apply pw_below_drewN | apply below_drew1 | refine below_set ?_ (IsS50.ge HI0.out) | refine below_set ?_ GE115.out) | exact HB.out)) hb); clear HI0; clear BK115; clear HK; clear HB; have HO122 := n0_; have HI0 := n1_; have BK115 := n2_; have HK := n3_; have HB := n4_; clear n0_ n1_ n2_ n3_ n4_; clear hb ho28) | ((with_reducible refine gate_dst (N := 16) rfl ?_); refine Kd.R_lit (Kd.int .i64) _ 3 ?hg (N := 16) ?hd (xs := ([0, 0, 0, 1, 2, 3] : List Int)) (inner := [.int .i64 0, .int .i64 0, .int .i64 0, .int .i64 1, .int .i64 2, .int .i64 3]) (ok := fun _ => True) (okp := fun _ => True) ?hr ?hp (fun _ hk => hk) trivial (Below.refl _ _) (Nat.le_refl _) (by simp) ?_; (case hd => rfl); (case hg => rfl); (case hr => first | (go_simp; done) | (go_simp; rfl)); (case hp => exact (Reps.one (show Kd.M (Kd.int .i64) _ _ _ 0 [.int .i64 0] from rfl) (Reps.one (show Kd.M (Kd.int .i64) _ _ _ 0 [.int .i64 0] from rfl) (Reps.one (show Kd.M (Kd.int .i64) _ _ _ 0 [.int .i64 0] from rfl) (Reps.one (show Kd.M (Kd.int .i64) _ _ _ 1 [.int .i64 1] from rfl) (Reps.one (show Kd.M (Kd.int .i64) _ _ _ 2 [.int .i64 2] from rfl) (Reps.one (show Kd.M (Kd.int .i64) _ _ _ 3 [.int .i64 3] from rfl) (Reps.none _ _)))))))); intro v124 w29 ho30 hb hg_ hnew_; clear hg_ hnew_; (first | rw [← Ny123.out] at ho30 | (simp only [Int.reduceToNat] at ho30; rw [← Ny123.out] at ho30)); have n0_ := Aside0.mk (Kd.R_elder' (by (with_reducible repeat (first | apply Kd.R_alloc | apply Kd.R_drewN | apply Kd.R_drew)); exact HO122.out) (Kd.R_base ho30) hb); have n1_ := Aside0.mk (Kd.R_lower (Kd.R_new' ho30 (Kd.R_lt (by (with_reducible repeat (first | apply Kd.R_alloc | apply Kd.R_drewN | apply Kd.R_drew)); exact HO122.out))) (keep_size (w := w) (g := g) (row := none) (by repeat (first | (with_reducible first | exact HK.out | apply KeepBut.set_ | apply keep_drewN | apply keep_drew | apply keep_alloc | refine keep_far ?_ GW115.out _) | exact HK.out)))); have n2_ := Aside0.mk (IsS50.below (by repeat (first | (with_reducible first | exact HI0.out | apply IsS50.alloc | apply IsS50.drewN | apply IsS50.drew | apply IsS50.set_1 | refine IsS50.far ?_ NB0_115.out _) | exact HI0.out)) hb); have n3_ := Aside0.mk (blk_below (g := gb115) (o := .cells #[.int .i64 0, .int .i64 0] 24 (0, 0)) (by (with_reducible repeat (first | refine blk_drewN ?_ _ | refine blk_drew ?_ | refine blk_alloc ?_ _)); exact BK115.out) hb); have n4_ := Aside0.mk (KeepBut.trans (by repeat (first | (with_reducible first | exact HK.out | apply KeepBut.set_ | apply keep_drewN | apply keep_drew | apply keep_alloc | refine keep_far ?_ GW115.out _) | exact HK.out)) (KeepBut.of_below hb g none) (.inl rfl)); have n5_ := Aside0.mk (below_step (by repeat (first | (with_reducible first | exact HB.out | apply below_alloc | apply pw_below_drewN | apply below_drew1 | refine below_set ?_ (IsS50.ge HI0.out) | refine below_set ?_ GE115.out) | exact HB.out)) hb); clear HO122; clear HI0; clear BK115; clear HK; clear HB; have HO122 := n0_; have HO125 := n1_; have HI0 := n2_; have BK115 := n3_; have HK := n4_; have HB := n5_; clear n0_ n1_ n2_ n3_ n4_ n5_; clear hb ho30) | ((with_reducible refine gate_callee (f := 30) rfl ?_); refine goesL_ (some 18) rfl rfl Try.func30 (by kernel_rfl) rfl #[.pointer (some ⟨g, 0, none⟩), .int .i64 6] rfl (by (try simp only [List.map_toArray, List.map_cons, List.map_nil]); first | done | rfl | (simp only [List.length_drop, List.length_take]; rfl)) ?_; (with_reducible refine (spec_l20Rd_pick.calls k g s0_0 t119 6 t126 t127 w0 _ ?side1 ?side2 A5.out).mono ?_); (case side1 => repeat (first | (with_reducible first | exact HI0.out | apply IsS50.alloc | apply IsS50.drewN | apply IsS50.drew | apply IsS50.set_1 | refine IsS50.far ?_ NB0_115.out _) | exact HI0.out)); (case side2 => repeat (first | (with_reducible first | exact HB.out | apply below_alloc | apply pw_below_drewN | apply below_drew1 | refine below_set ?_ (IsS50.ge HI0.out) | refine below_set ?_ GE115.out) | exact HB.out)); rintro e w31 ⟨rfl, hi, hb, hk⟩; refine ⟨_, rfl, ?_⟩; have n0_ := Aside0.mk (KeepBut.blk hk (g' := gb115) (o := .cells #[.int .i64 0, .int .i64 0] 24 (0, 0)) (by (with_reducible repeat (first | refine blk_drewN ?_ _ | refine blk_drew ?_ | refine blk_alloc ?_ _)); exact BK115.out) NB115_0.out (by simp)); have n1_ := Aside0.mk (Kd.R_mono (Kd.R_keep (IsS50.apart (show IsS50 w0 _ g s0_0 t119 from by repeat (first | (with_reducible first | exact HI0.out | apply IsS50.alloc | apply IsS50.drewN | apply IsS50.drew | apply IsS50.set_1 | refine IsS50.far ?_ NB0_115.out _) | exact HI0.out)) (by (with_reducible repeat (first | apply Kd.R_alloc | apply Kd.R_drewN | apply Kd.R_drew)); exact HO122.out) (by decide)) hk (fun _ h => h.2)) (fun _ h => h.1)); have n2_ := Aside0.mk (Kd.R_mono (Kd.R_keep (IsS50.apart (show IsS50 w0 _ g s0_0 t119 from by repeat (first | (with_reducible first | exact HI0.out | apply IsS50.alloc | apply IsS50.drewN | apply IsS50.drew | apply IsS50.set_1 | refine IsS50.far ?_ NB0_115.out _) | exact HI0.out)) (by (with_reducible repeat (first | apply Kd.R_alloc | apply Kd.R_drewN | apply Kd.R_drew)); exact HO125.out) (by decide)) hk (fun _ h => h.2)) (fun _ h => h.1)); have n3_ := Aside0.mk (KeepBut.trans (by repeat (first | (with_reducible first | exact HK.out | apply KeepBut.set_ | apply keep_drewN | apply keep_drew | apply keep_alloc | refine keep_far ?_ GW115.out _) | exact HK.out)) hk (.inl rfl)); have n4_ := Aside0.mk (hb); have n5_ := Aside0.mk (hi); clear BK115; clear HO122; clear HO125; clear HK; clear HB; clear HI0; have BK115 := n0_; have HO122 := n1_; have HO125 := n2_; have HK := n3_; have HB := n4_; have HI0 := n5_; clear n0_ n1_ n2_ n3_ n4_ n5_; (try clear hb); (try clear hb2); (try clear hk); (try clear hi); obtain ⟨Ao32, co32, eo32⟩ := Kd.R_slice HO125.out; subst eo32; have p128 : 0 ≤ (t126 : Int) := of_decide_eq_true (by first | (with_reducible assumption) | assumption); have q128 : t126 < (y123.length : Int) := of_decide_eq_true (by first | (with_reducible assumption) | assumption); obtain ⟨ad128, e128, hx128_0⟩ := Kd.at_int (Kd.R_reads' HO125.out).2.2 t126 p128 q128; cases e128; replace p128 := eq_true p128; replace q128 := eq_true q128; obtain ⟨Ao33, co33, eo33⟩ := Kd.R_slice HO122.out; subst eo33; have p129 : 0 ≤ ((rd y123 t126) : Int) := of_decide_eq_true (by first | (with_reducible assumption) | assumption); have q129 : (rd y123 t126) < (y120.length : Int) := of_decide_eq_true (by first | (with_reducible assumption) | assumption); obtain ⟨ad129, e129, hx129_0⟩ := Kd.at_int (Kd.R_reads' HO122.out).2.2 (rd y123 t126) p129 q129; cases e129; replace p129 := eq_true p129; replace q129 := eq_true q129))
                          have pi137 : (0 ≤ (t135 : Int)) = True := eq_true (of_decide_eq_true (by first | (with_reducible assumption) | assumption))
                          have qi137 : (t135 < (y132.length : Int)) = True := eq_true (of_decide_eq_true (by first | (with_reducible assumption) | assumption))
                          have pi143 : (0 ≤ (t141 : Int)) = True := eq_true (of_decide_eq_true (by first | (with_reducible assumption) | assumption))
                          have qi143 : (t141 < (y138.length : Int)) = True := eq_true (of_decide_eq_true (by first | (with_reducible assumption) | assumption))
                          have n0_ := Aside0.mk (Kd.R_drew HO122.out)
                          have n1_ := Aside0.mk (Kd.R_drew HO125.out)
                          have n2_ := Aside0.mk (blk_drew BK115.out)
                          have n3_ := Aside0.mk (IsS50.drew HI0.out)
                          have n4_ := Aside0.mk (keep_drew HK.out)
                          have n5_ := Aside0.mk (below_drew1 HB.out)
                          clear HO122
                          clear HO125
                          clear BK115
                          clear HI0
                          clear HK
                          clear HB
                          have HO122 := n0_
                          have HO125 := n1_
                          have BK115 := n2_
                          have HI0 := n3_
                          have HK := n4_
                          have HB := n5_
                          clear n0_ n1_ n2_ n3_ n4_ n5_
                          refine start_ (n := 14) (S := fun w' => True) (ds := []) #[false, false, false, false, false, false, false, false, false, false, false, false, false, false] (by kernel_rfl) rfl rfl trivial (fun hHeld => ?_); refine with_tabW spec_l20Fraction.tab2 spec_l20Fraction.bits2 (fun HT_ HW_ => ?_)
                          generalize w31.drew = w34 at HO122 HO125 BK115 HI0 HK HB hHeld ⊢
                          refine pure_ (i := 0) (N := some 23) (v := ?_) (a' := ?_) #[true, false, false, false, false, false, false, false, false, false, false, false, false, false] rfl rfl (any_of HT_.out (by kernel_rfl)) (fun _ _ _ h => h) (Or.inl ⟨by rfl, ?_⟩) ?_ ?_
                          rotate_left
                          · intro w'
                            go_simp
                            with_reducible rfl
                          rotate_left
                          · simp only [Act.put, List.setIfInBounds_toArray, List.set_cons_zero, List.set_cons_succ, i64_w, i32_w]
                            rfl
                          refine pure_ (i := 4) (N := some 27) (v := ?_) (a' := ?_) #[true, false, false, false, true, false, false, false, false, false, false, false, false, false] rfl rfl (any_of HT_.out (by kernel_rfl)) (fun _ _ _ h => h) (Or.inl ⟨by rfl, ?_⟩) ?_ ?_
                          rotate_left
                          · intro w'
                            go_simp
                            with_reducible rfl
                          rotate_left
                          · simp only [Act.put, List.setIfInBounds_toArray, List.set_cons_zero, List.set_cons_succ, i64_w, i32_w]
                            rfl
                          refine pure_ (i := 9) (N := some 32) (v := ?_) (a' := ?_) #[true, false, false, false, true, false, false, false, false, true, false, false, false, false] rfl rfl (any_of HT_.out (by kernel_rfl)) (fun _ _ _ h => h) (Or.inl ⟨by rfl, ?_⟩) ?_ ?_
                          rotate_left
                          · intro w'
                            go_simp
                            with_reducible rfl
                          rotate_left
                          · simp only [Act.put, List.setIfInBounds_toArray, List.set_cons_zero, List.set_cons_succ, i64_w, i32_w]
                            rfl
                          refine inv_at [1, 2, 3, 5, 6, 7, 8, 10, 11, 12, 13] (fun a0_ b a w' => ∃ (v133 : Value) (adz_v133 : Addr) (v139 : Value) (adz_v139 : Addr) (m6_ : Value) (m11_ : Value), a = putSel a0_ b [(1, 24, .int .i64 t130), (2, 25, .int .i64 (wrap64 (1 + t130))), (3, 26, v133), (5, 28, .int .i64 t135), (6, 29, m6_), (7, 30, .int .i64 (rd y132 t135)), (8, 31, v139), (10, 33, .int .i64 t141), (11, 34, m11_), (12, 35, .int .i64 (rd y138 t141)), (13, 6, .int .i64 (rd y138 t141))] ∧ (Kd.R (Kd.int .i64) 3 w' w.heap.size (fun k_ => True ∧ some k_ ≠ (.slice (some ad128) y123.length co32 : Value).ownBlock) (.slice (some ad129) y120.length co33) y120) ∧ (Kd.R (Kd.int .i64) 3 w' w.heap.size (fun k_ => True ∧ some k_ ≠ (.slice (some ad129) y120.length co33 : Value).ownBlock) (.slice (some ad128) y123.length co32) y123) ∧ (w'.heap[gb115]? = some (.cells #[.int .i64 0, .int .i64 0] 24 (0, 0))) ∧ (b 1 = false → IsS50 w0 w' g s0_0 t127) ∧ (KeepBut w w' g none) ∧ (Below w0.heap.size w0 w') ∧ (b 1 = true → b 5 = false → IsS50 w0 w' g s0_0 t131) ∧ (b 3 = true → Kd.R (Kd.int .i64) 3 w' w.heap.size (fun k_ => some k_ ≠ (.slice (some ad129) y120.length co33 : Value).ownBlock ∧ some k_ ≠ (.slice (some ad128) y123.length co32 : Value).ownBlock) v133 y132) ∧ (b 3 = true → ∃ c_, (v133 : Value) = .slice (some adz_v133) y132.length c_) ∧ (b 5 = true → b 10 = false → IsS50 w0 w' g s0_0 t136) ∧ (b 8 = true → Kd.R (Kd.int .i64) 3 w' w.heap.size (fun k_ => some k_ ≠ (.slice (some ad129) y120.length co33 : Value).ownBlock ∧ some k_ ≠ (.slice (some ad128) y123.length co32 : Value).ownBlock) v139 y138) ∧ (b 8 = true → ∃ c_, (v139 : Value) = .slice (some adz_v139) y138.length c_) ∧ (b 10 = true → IsS50 w0 w' g s0_0 t142) ∧ (b 6 = true → (m6_ : Value) = .pointer (some (adz_v133.add (t135).toNat))) ∧ (b 11 = true → (m11_ : Value) = .pointer (some (adz_v139.add (t141).toNat)))) HT_.out HW_.out (by kernel_rfl) (by kernel_rfl) ?_ ?_ ?_
                          · exact ⟨.bool false, ⟨0, 0, none⟩, .bool false, ⟨0, 0, none⟩, .bool false, .bool false, by simp only [putSel, Bool.false_eq_true, if_false], HO122.out, HO125.out, BK115.out, fun _ => HI0.out, HK.out, HB.out, fun h_ => absurd h_ (by decide), fun h_ => absurd h_ (by decide), fun h_ => absurd h_ (by decide), fun h_ => absurd h_ (by decide), fun h_ => absurd h_ (by decide), fun h_ => absurd h_ (by decide), fun h_ => absurd h_ (by decide), fun h_ => absurd h_ (by decide), fun h_ => absurd h_ (by decide)⟩
                          · skip
                            clear BK115 HB HI0 HK HO122 HO125
                            refine steps_cons ?_ ?_
                            · rintro b a w' ⟨v133, adz_v133, v139, adz_v139, m6_, m11_, ha, Q_HO122, Q_HO125, Q_BK115, Q_HI0, Q_HK, Q_HB, Q_HI0_e1, Q_HO134, Q_HA_HO134, Q_HI0_e5, Q_HO140, Q_HA_HO140, Q_HI0_e10, Q_X6_, Q_X11_⟩ hb_ hon hoff
                              refine ⟨_, rfl, fun K hK => ?_⟩
                              have e23 : a.tmps[23]? = some (.pointer (some ⟨g, 0, none⟩)) := by rw [ha]; exact (putSel_off rfl).trans rfl
                              replace ha := Aside0.mk ha
                              have HO122 := Aside0.mk Q_HO122
                              have HO125 := Aside0.mk Q_HO125
                              have BK115 := Aside0.mk Q_BK115
                              have HI0 := Aside0.mk (Q_HI0 hb_)
                              have HK := Aside0.mk Q_HK
                              have HB := Aside0.mk Q_HB
                              refine goes_ Try.func30 (by kernel_rfl) rfl #[.pointer (some ⟨g, 0, none⟩), .int .i64 9] (by rfl) rfl rfl (by first | (simp only [List.map_toArray, List.map_cons, List.map_nil, Act.eval, Array.getD_eq_getD_getElem?, Option.getD_some, e23]; done) | (simp only [List.map_toArray, List.map_cons, List.map_nil, Act.eval, Array.getD_eq_getD_getElem?, Option.getD_some, e23]; rfl)) ?_
                              with_reducible refine (spec_l20Rd_pick.calls k g s0_0 t127 9 t130 t131 w0 _ ?side1 ?side2 A10.out).mono ?_
                              (case side1 => repeat (first | (with_reducible first | exact HI0.out | apply IsS50.alloc | apply IsS50.drewN | apply IsS50.drew | apply IsS50.set_1 | refine IsS50.far ?_ NB0_115.out _) | exact HI0.out))
                              (case side2 => repeat (first | (with_reducible first | exact HB.out | apply below_alloc | apply pw_below_drewN | apply below_drew1 | refine below_set ?_ (IsS50.ge HI0.out) | refine below_set ?_ GE115.out) | exact HB.out))
                              rintro e w35 ⟨rfl, hi, hb, hk⟩
                              refine ⟨_, rfl, ?_⟩
                              have n0_ := Aside0.mk (KeepBut.blk hk (g' := gb115) (o := .cells #[.int .i64 0, .int .i64 0] 24 (0, 0)) (by (with_reducible repeat (first | refine blk_drewN ?_ _ | refine blk_drew ?_ | refine blk_alloc ?_ _)); exact BK115.out) NB115_0.out (by simp))
                              have n1_ := Aside0.mk (Kd.R_mono (Kd.R_keep (IsS50.apart (show IsS50 w0 _ g s0_0 t127 from by repeat (first | (with_reducible first | exact HI0.out | apply IsS50.alloc | apply IsS50.drewN | apply IsS50.drew | apply IsS50.set_1 | refine IsS50.far ?_ NB0_115.out _) | exact HI0.out)) (by (with_reducible repeat (first | apply Kd.R_alloc | apply Kd.R_drewN | apply Kd.R_drew)); exact HO122.out) (by decide)) hk (fun _ h => h.2)) (fun _ h => h.1))
                              have n2_ := Aside0.mk (Kd.R_mono (Kd.R_keep (IsS50.apart (show IsS50 w0 _ g s0_0 t127 from by repeat (first | (with_reducible first | exact HI0.out | apply IsS50.alloc | apply IsS50.drewN | apply IsS50.drew | apply IsS50.set_1 | refine IsS50.far ?_ NB0_115.out _) | exact HI0.out)) (by (with_reducible repeat (first | apply Kd.R_alloc | apply Kd.R_drewN | apply Kd.R_drew)); exact HO125.out) (by decide)) hk (fun _ h => h.2)) (fun _ h => h.1))
                              have n3_ := Aside0.mk (KeepBut.trans (by repeat (first | (with_reducible first | exact HK.out | apply KeepBut.set_ | apply keep_drewN | apply keep_drew | apply keep_alloc | refine keep_far ?_ GW115.out _) | exact HK.out)) hk (.inl rfl))
                              have n4_ := Aside0.mk (hb)
                              have n5_ := Aside0.mk (hi)
                              have z_HO134 := fun (h0_ : b 3 = true) => (show Kd.R (Kd.int .i64) 3 w35 w.heap.size (fun k_ => some k_ ≠ (.slice (some ad129) y120.length co33 : Value).ownBlock ∧ some k_ ≠ (.slice (some ad128) y123.length co32 : Value).ownBlock) v133 y132 from by first | exact (Kd.R_mono (Kd.R_keep (IsS50.apart (show IsS50 w0 _ g s0_0 t127 from by repeat (first | (with_reducible first | exact HI0.out | apply IsS50.alloc | apply IsS50.drewN | apply IsS50.drew | apply IsS50.set_1 | refine IsS50.far ?_ NB0_115.out _) | exact HI0.out)) (by (with_reducible repeat (first | apply Kd.R_alloc | apply Kd.R_drewN | apply Kd.R_drew)); exact (Q_HO134 h0_)) (by decide)) hk (fun _ h => h.2)) (fun _ h => h.1)) | exact Kd.R_mono (Kd.R_mono (Kd.R_keep (IsS50.apart (show IsS50 w0 _ g s0_0 t127 from by repeat (first | (with_reducible first | exact HI0.out | apply IsS50.alloc | apply IsS50.drewN | apply IsS50.drew | apply IsS50.set_1 | refine IsS50.far ?_ NB0_115.out _) | exact HI0.out)) (by (with_reducible repeat (first | apply Kd.R_alloc | apply Kd.R_drewN | apply Kd.R_drew)); exact (Q_HO134 h0_)) (by decide)) hk (fun _ h => h.2)) (fun _ h => h.1)) (fun _ h_ => by first | trivial | exact h_ | exact h_.1))
                              clear BK115
                              clear HO122
                              clear HO125
                              clear HK
                              clear HB
                              clear HI0
                              have BK115 := n0_
                              have HO122 := n1_
                              have HO125 := n2_
                              have HK := n3_
                              have HB := n4_
                              have HI0 := n5_
                              clear n0_ n1_ n2_ n3_ n4_ n5_
                              (try clear hb)
                              (try clear hb2)
                              (try clear hk)
                              (try clear hi)
                              refine hK.out _ _ ⟨v133, adz_v133, v139, adz_v139, m6_, m11_, (by rw [ha.out]; exact putSel_upk 0 hb_ rfl rfl rfl), (by (with_reducible repeat (first | apply Kd.R_alloc | apply Kd.R_drewN | apply Kd.R_drew)); exact Kd.R_mono HO122.out (fun _ hk => by first | grind | (simp only [true_and, and_assoc] at hk ⊢; grind))), (by (with_reducible repeat (first | apply Kd.R_alloc | apply Kd.R_drewN | apply Kd.R_drew)); exact Kd.R_mono HO125.out (fun _ hk => by first | grind | (simp only [true_and, and_assoc] at hk ⊢; grind))), (by (with_reducible repeat (first | refine blk_drewN ?_ _ | refine blk_drew ?_ | refine blk_alloc ?_ _)); exact BK115.out), fun h0_ => absurd ((up_self b 1).symm.trans h0_) (by decide), (by repeat (first | (with_reducible first | exact HK.out | apply KeepBut.set_ | apply keep_drewN | apply keep_drew | apply keep_alloc | refine keep_far ?_ GW115.out _) | exact HK.out)), (by repeat (first | (with_reducible first | exact HB.out | apply below_alloc | apply pw_below_drewN | apply below_drew1 | refine below_set ?_ (IsS50.ge HI0.out) | refine below_set ?_ GE115.out) | exact HB.out)), fun _ _ => (by repeat (first | (with_reducible first | exact HI0.out | apply IsS50.alloc | apply IsS50.drewN | apply IsS50.drew | apply IsS50.set_1 | refine IsS50.far ?_ NB0_115.out _) | exact HI0.out)), z_HO134, Q_HA_HO134, fun h0_ _ => absurd ((hoff 5 (by kernel_rfl)).symm.trans h0_) (by decide), fun h0_ => absurd ((hoff 8 (by kernel_rfl)).symm.trans h0_) (by decide), fun h0_ => absurd ((hoff 8 (by kernel_rfl)).symm.trans h0_) (by decide), fun h0_ => absurd ((hoff 10 (by kernel_rfl)).symm.trans h0_) (by decide), fun h0_ => absurd ((hoff 6 (by kernel_rfl)).symm.trans h0_) (by decide), fun h0_ => absurd ((hoff 11 (by kernel_rfl)).symm.trans h0_) (by decide)⟩
                            refine steps_cons ?_ ?_
                            · rintro b a w' ⟨v133, adz_v133, v139, adz_v139, m6_, m11_, ha, Q_HO122, Q_HO125, Q_BK115, Q_HI0, Q_HK, Q_HB, Q_HI0_e1, Q_HO134, Q_HA_HO134, Q_HI0_e5, Q_HO140, Q_HA_HO140, Q_HI0_e10, Q_X6_, Q_X11_⟩ hb_ hon hoff
                              refine ⟨_, rfl, fun K hK => ?_⟩
                              have e24 : a.tmps[24]? = some (.int .i64 t130) := by rw [ha]; exact putSel_on (e := (1, 24, .int .i64 t130)) 0 rfl rfl (hon 1 (by kernel_rfl)) rfl
                              replace ha := Aside0.mk ha
                              have HO122 := Aside0.mk Q_HO122
                              have HO125 := Aside0.mk Q_HO125
                              have BK115 := Aside0.mk Q_BK115
                              have HK := Aside0.mk Q_HK
                              have HB := Aside0.mk Q_HB
                              refine value_ (w1 := w') (v := .int .i64 (wrap64 (1 + t130))) (by rfl) rfl ?_ ?_
                              · go_simp
                                (try simp only [i64_w])
                                try rfl
                              refine hK.out _ _ ⟨v133, adz_v133, v139, adz_v139, m6_, m11_, (by rw [ha.out]; exact putSel_upk 1 hb_ rfl rfl rfl), Q_HO122, Q_HO125, Q_BK115, fun h0_ => absurd ((hon 1 (by kernel_rfl)).symm.trans h0_) (by decide), Q_HK, Q_HB, Q_HI0_e1, Q_HO134, Q_HA_HO134, Q_HI0_e5, fun h0_ => absurd ((hoff 8 (by kernel_rfl)).symm.trans h0_) (by decide), fun h0_ => absurd ((hoff 8 (by kernel_rfl)).symm.trans h0_) (by decide), Q_HI0_e10, Q_X6_, fun h0_ => absurd ((hoff 11 (by kernel_rfl)).symm.trans h0_) (by decide)⟩
                            refine steps_cons ?_ ?_
                            · rintro b a w' ⟨v133, adz_v133, v139, adz_v139, m6_, m11_, ha, Q_HO122, Q_HO125, Q_BK115, Q_HI0, Q_HK, Q_HB, Q_HI0_e1, Q_HO134, Q_HA_HO134, Q_HI0_e5, Q_HO140, Q_HA_HO140, Q_HI0_e10, Q_X6_, Q_X11_⟩ hb_ hon hoff
                              refine ⟨_, rfl, fun K hK => ?_⟩
                              replace ha := Aside0.mk ha
                              have HO122 := Aside0.mk Q_HO122
                              have HO125 := Aside0.mk Q_HO125
                              have BK115 := Aside0.mk Q_BK115
                              have HK := Aside0.mk Q_HK
                              have HB := Aside0.mk Q_HB
                              refine Kd.R_lit_step (Kd.int .i64) _ 3 ?hg (N := 26) ?hd (xs := ([2, 4, 10, 100, 1000, 1000000] : List Int)) (inner := [.int .i64 2, .int .i64 4, .int .i64 10, .int .i64 100, .int .i64 1000, .int .i64 1000000]) (ok := fun _ => True) (okp := fun _ => True) ?hr ?hp (fun _ hk => hk) trivial (Below.refl _ _) (Nat.le_refl _) (by simp) ?_; (case hd => rfl); (case hg => rfl); (case hr => first | (go_simp; done) | (go_simp; rfl)); (case hp => exact (Reps.one (show Kd.M (Kd.int .i64) _ _ _ 2 [.int .i64 2] from rfl) (Reps.one (show Kd.M (Kd.int .i64) _ _ _ 4 [.int .i64 4] from rfl) (Reps.one (show Kd.M (Kd.int .i64) _ _ _ 10 [.int .i64 10] from rfl) (Reps.one (show Kd.M (Kd.int .i64) _ _ _ 100 [.int .i64 100] from rfl) (Reps.one (show Kd.M (Kd.int .i64) _ _ _ 1000 [.int .i64 1000] from rfl) (Reps.one (show Kd.M (Kd.int .i64) _ _ _ 1000000 [.int .i64 1000000] from rfl) (Reps.none _ _))))))))
                              intro v133 w35 ho36 hb hg_ hnew_
                              clear hg_ hnew_
                              (first | rw [← Ny132.out] at ho36 | (simp only [Int.reduceToNat] at ho36; rw [← Ny132.out] at ho36))
                              have n0_ := Aside0.mk (Kd.R_elder' (by (with_reducible repeat (first | apply Kd.R_alloc | apply Kd.R_drewN | apply Kd.R_drew)); exact HO122.out) (Kd.R_base ho36) hb)
                              have n1_ := Aside0.mk (Kd.R_elder' (by (with_reducible repeat (first | apply Kd.R_alloc | apply Kd.R_drewN | apply Kd.R_drew)); exact HO125.out) (Kd.R_base ho36) hb)
                              have n2_ := Aside0.mk (Kd.R_lower (Kd.R_new' (Kd.R_new' ho36 (Kd.R_lt (by (with_reducible repeat (first | apply Kd.R_alloc | apply Kd.R_drewN | apply Kd.R_drew)); exact HO122.out))) (Kd.R_lt (by (with_reducible repeat (first | apply Kd.R_alloc | apply Kd.R_drewN | apply Kd.R_drew)); exact HO125.out))) (keep_size (w := w) (g := g) (row := none) (by repeat (first | (with_reducible first | exact HK.out | apply KeepBut.set_ | apply keep_drewN | apply keep_drew | apply keep_alloc | refine keep_far ?_ GW115.out _) | exact HK.out))))
                              have n4_ := Aside0.mk (blk_below (g := gb115) (o := .cells #[.int .i64 0, .int .i64 0] 24 (0, 0)) (by (with_reducible repeat (first | refine blk_drewN ?_ _ | refine blk_drew ?_ | refine blk_alloc ?_ _)); exact BK115.out) hb)
                              have n5_ := Aside0.mk (KeepBut.trans (by repeat (first | (with_reducible first | exact HK.out | apply KeepBut.set_ | apply keep_drewN | apply keep_drew | apply keep_alloc | refine keep_far ?_ GW115.out _) | exact HK.out)) (KeepBut.of_below hb g none) (.inl rfl))
                              have n6_ := Aside0.mk (below_step (by repeat (first | (with_reducible first | exact HB.out | apply below_alloc | apply pw_below_drewN | apply below_drew1 | refine below_set ?_ GE115.out) | exact HB.out)) hb)
                              have z_HI0 := fun (h0_ : b 1 = false) => (show IsS50 w0 w35 g s0_0 t127 from by first | exact (IsS50.below (by repeat (first | (with_reducible first | exact (Q_HI0 h0_) | apply IsS50.alloc | apply IsS50.drewN | apply IsS50.drew | apply IsS50.set_1 | refine IsS50.far ?_ NB0_115.out _) | exact (Q_HI0 h0_))) hb))
                              have z_HI0_e1 := fun (h0_ : b 1 = true) (h1_ : b 5 = false) => (show IsS50 w0 w35 g s0_0 t131 from by first | exact (IsS50.below (by repeat (first | (with_reducible first | exact (Q_HI0_e1 h0_ h1_) | apply IsS50.alloc | apply IsS50.drewN | apply IsS50.drew | apply IsS50.set_1 | refine IsS50.far ?_ NB0_115.out _) | exact (Q_HI0_e1 h0_ h1_))) hb))
                              have z_HI0_e5 := fun (h0_ : b 5 = true) (h1_ : b 10 = false) => (show IsS50 w0 w35 g s0_0 t136 from by first | exact (IsS50.below (by repeat (first | (with_reducible first | exact (Q_HI0_e5 h0_ h1_) | apply IsS50.alloc | apply IsS50.drewN | apply IsS50.drew | apply IsS50.set_1 | refine IsS50.far ?_ NB0_115.out _) | exact (Q_HI0_e5 h0_ h1_))) hb))
                              have z_HI0_e10 := fun (h0_ : b 10 = true) => (show IsS50 w0 w35 g s0_0 t142 from by first | exact (IsS50.below (by repeat (first | (with_reducible first | exact (Q_HI0_e10 h0_) | apply IsS50.alloc | apply IsS50.drewN | apply IsS50.drew | apply IsS50.set_1 | refine IsS50.far ?_ NB0_115.out _) | exact (Q_HI0_e10 h0_))) hb))
                              clear HO122
                              clear HO125
                              clear BK115
                              clear HK
                              clear HB
                              have HO122 := n0_
                              have HO125 := n1_
                              have HO134 := n2_
                              have BK115 := n4_
                              have HK := n5_
                              have HB := n6_
                              clear n0_ n1_ n2_ n4_ n5_ n6_
                              clear hb ho36
                              obtain ⟨Ao37, co37, eo37⟩ := Kd.R_slice HO134.out
                              subst eo37
                              obtain ⟨ado37, fo37, _⟩ := Kd.at_int (Kd.R_reads' HO134.out).2.2 0 (by decide) (by rw [Ny132.out]; simp)
                              cases fo37
                              refine hK.out _ _ ⟨.slice (some ado37) y132.length co37, ado37, v139, adz_v139, m6_, m11_, (by rw [ha.out]; exact putSel_upk 2 hb_ rfl rfl rfl), (by (with_reducible repeat (first | apply Kd.R_alloc | apply Kd.R_drewN | apply Kd.R_drew)); exact Kd.R_mono HO122.out (fun _ hk => by first | grind | (simp only [true_and, and_assoc] at hk ⊢; grind))), (by (with_reducible repeat (first | apply Kd.R_alloc | apply Kd.R_drewN | apply Kd.R_drew)); exact Kd.R_mono HO125.out (fun _ hk => by first | grind | (simp only [true_and, and_assoc] at hk ⊢; grind))), (by (with_reducible repeat (first | refine blk_drewN ?_ _ | refine blk_drew ?_ | refine blk_alloc ?_ _)); exact BK115.out), z_HI0, (by repeat (first | (with_reducible first | exact HK.out | apply KeepBut.set_ | apply keep_drewN | apply keep_drew | apply keep_alloc | refine keep_far ?_ GW115.out _) | exact HK.out)), (by repeat (first | (with_reducible first | exact HB.out | apply below_alloc | apply pw_below_drewN | apply below_drew1 | refine below_set ?_ GE115.out) | exact HB.out)), z_HI0_e1, fun _ => (by (with_reducible repeat (first | apply Kd.R_alloc | apply Kd.R_drewN | apply Kd.R_drew)); exact Kd.R_mono HO134.out (fun _ hk => by first | grind | (simp only [true_and, and_assoc] at hk ⊢; grind))), fun _ => ⟨_, rfl⟩, z_HI0_e5, fun h0_ => absurd ((hoff 8 (by kernel_rfl)).symm.trans h0_) (by decide), fun h0_ => absurd ((hoff 8 (by kernel_rfl)).symm.trans h0_) (by decide), z_HI0_e10, fun h0_ => absurd ((hoff 6 (by kernel_rfl)).symm.trans h0_) (by decide), fun h0_ => absurd ((hoff 11 (by kernel_rfl)).symm.trans h0_) (by decide)⟩
                            refine steps_cons ?_ ?_
                            · rintro b a w' ⟨v133, adz_v133, v139, adz_v139, m6_, m11_, ha, Q_HO122, Q_HO125, Q_BK115, Q_HI0, Q_HK, Q_HB, Q_HI0_e1, Q_HO134, Q_HA_HO134, Q_HI0_e5, Q_HO140, Q_HA_HO140, Q_HI0_e10, Q_X6_, Q_X11_⟩ hb_ hon hoff
                              refine ⟨_, rfl, fun K hK => ?_⟩
                              have e27 : a.tmps[27]? = some (.pointer (some ⟨g, 0, none⟩)) := by rw [ha]; exact (putSel_off rfl).trans rfl
                              replace ha := Aside0.mk ha
                              have HO122 := Aside0.mk Q_HO122
                              have HO125 := Aside0.mk Q_HO125
                              have BK115 := Aside0.mk Q_BK115
                              have HK := Aside0.mk Q_HK
                              have HB := Aside0.mk Q_HB
                              have HI0 := Aside0.mk (Q_HI0_e1 (hon 1 (by kernel_rfl)) hb_)
                              refine goes_ Try.func30 (by kernel_rfl) rfl #[.pointer (some ⟨g, 0, none⟩), .int .i64 6] (by rfl) rfl rfl (by first | (simp only [List.map_toArray, List.map_cons, List.map_nil, Act.eval, Array.getD_eq_getD_getElem?, Option.getD_some, e27]; done) | (simp only [List.map_toArray, List.map_cons, List.map_nil, Act.eval, Array.getD_eq_getD_getElem?, Option.getD_some, e27]; rfl)) ?_
                              with_reducible refine (spec_l20Rd_pick.calls k g s0_0 t131 6 t135 t136 w0 _ ?side1 ?side2 A11.out).mono ?_
                              (case side1 => repeat (first | (with_reducible first | exact HI0.out | apply IsS50.alloc | apply IsS50.drewN | apply IsS50.drew | apply IsS50.set_1 | refine IsS50.far ?_ NB0_115.out _) | exact HI0.out))
                              (case side2 => repeat (first | (with_reducible first | exact HB.out | apply below_alloc | apply pw_below_drewN | apply below_drew1 | refine below_set ?_ (IsS50.ge HI0.out) | refine below_set ?_ GE115.out) | exact HB.out))
                              rintro e w37 ⟨rfl, hi, hb, hk⟩
                              refine ⟨_, rfl, ?_⟩
                              have n0_ := Aside0.mk (KeepBut.blk hk (g' := gb115) (o := .cells #[.int .i64 0, .int .i64 0] 24 (0, 0)) (by (with_reducible repeat (first | refine blk_drewN ?_ _ | refine blk_drew ?_ | refine blk_alloc ?_ _)); exact BK115.out) NB115_0.out (by simp))
                              have n1_ := Aside0.mk (Kd.R_mono (Kd.R_keep (IsS50.apart (show IsS50 w0 _ g s0_0 t131 from by repeat (first | (with_reducible first | exact HI0.out | apply IsS50.alloc | apply IsS50.drewN | apply IsS50.drew | apply IsS50.set_1 | refine IsS50.far ?_ NB0_115.out _) | exact HI0.out)) (by (with_reducible repeat (first | apply Kd.R_alloc | apply Kd.R_drewN | apply Kd.R_drew)); exact HO122.out) (by decide)) hk (fun _ h => h.2)) (fun _ h => h.1))
                              have n2_ := Aside0.mk (Kd.R_mono (Kd.R_keep (IsS50.apart (show IsS50 w0 _ g s0_0 t131 from by repeat (first | (with_reducible first | exact HI0.out | apply IsS50.alloc | apply IsS50.drewN | apply IsS50.drew | apply IsS50.set_1 | refine IsS50.far ?_ NB0_115.out _) | exact HI0.out)) (by (with_reducible repeat (first | apply Kd.R_alloc | apply Kd.R_drewN | apply Kd.R_drew)); exact HO125.out) (by decide)) hk (fun _ h => h.2)) (fun _ h => h.1))
                              have n3_ := Aside0.mk (KeepBut.trans (by repeat (first | (with_reducible first | exact HK.out | apply KeepBut.set_ | apply keep_drewN | apply keep_drew | apply keep_alloc | refine keep_far ?_ GW115.out _) | exact HK.out)) hk (.inl rfl))
                              have n4_ := Aside0.mk (hb)
                              have n5_ := Aside0.mk (hi)
                              have z_HO134 := fun (h0_ : b 3 = true) => (show Kd.R (Kd.int .i64) 3 w37 w.heap.size (fun k_ => some k_ ≠ (.slice (some ad129) y120.length co33 : Value).ownBlock ∧ some k_ ≠ (.slice (some ad128) y123.length co32 : Value).ownBlock) v133 y132 from by first | exact (Kd.R_mono (Kd.R_keep (IsS50.apart (show IsS50 w0 _ g s0_0 t131 from by repeat (first | (with_reducible first | exact HI0.out | apply IsS50.alloc | apply IsS50.drewN | apply IsS50.drew | apply IsS50.set_1 | refine IsS50.far ?_ NB0_115.out _) | exact HI0.out)) (by (with_reducible repeat (first | apply Kd.R_alloc | apply Kd.R_drewN | apply Kd.R_drew)); exact (Q_HO134 h0_)) (by decide)) hk (fun _ h => h.2)) (fun _ h => h.1)) | exact Kd.R_mono (Kd.R_mono (Kd.R_keep (IsS50.apart (show IsS50 w0 _ g s0_0 t131 from by repeat (first | (with_reducible first | exact HI0.out | apply IsS50.alloc | apply IsS50.drewN | apply IsS50.drew | apply IsS50.set_1 | refine IsS50.far ?_ NB0_115.out _) | exact HI0.out)) (by (with_reducible repeat (first | apply Kd.R_alloc | apply Kd.R_drewN | apply Kd.R_drew)); exact (Q_HO134 h0_)) (by decide)) hk (fun _ h => h.2)) (fun _ h => h.1)) (fun _ h_ => by first | trivial | exact h_ | exact h_.1))
                              clear BK115
                              clear HO122
                              clear HO125
                              clear HK
                              clear HB
                              clear HI0
                              have BK115 := n0_
                              have HO122 := n1_
                              have HO125 := n2_
                              have HK := n3_
                              have HB := n4_
                              have HI0 := n5_
                              clear n0_ n1_ n2_ n3_ n4_ n5_
                              (try clear hb)
                              (try clear hb2)
                              (try clear hk)
                              (try clear hi)
                              refine hK.out _ _ ⟨v133, adz_v133, v139, adz_v139, m6_, m11_, (by rw [ha.out]; exact putSel_upk 3 hb_ rfl rfl rfl), (by (with_reducible repeat (first | apply Kd.R_alloc | apply Kd.R_drewN | apply Kd.R_drew)); exact HO122.out), (by (with_reducible repeat (first | apply Kd.R_alloc | apply Kd.R_drewN | apply Kd.R_drew)); exact HO125.out), (by (with_reducible repeat (first | refine blk_drewN ?_ _ | refine blk_drew ?_ | refine blk_alloc ?_ _)); exact BK115.out), fun h0_ => absurd ((hon 1 (by kernel_rfl)).symm.trans h0_) (by decide), (by repeat (first | (with_reducible first | exact HK.out | apply KeepBut.set_ | apply keep_drewN | apply keep_drew | apply keep_alloc | refine keep_far ?_ GW115.out _) | exact HK.out)), (by repeat (first | (with_reducible first | exact HB.out | apply below_alloc | apply pw_below_drewN | apply below_drew1 | refine below_set ?_ (IsS50.ge HI0.out) | refine below_set ?_ GE115.out) | exact HB.out)), fun _ h1_ => absurd ((up_self b 5).symm.trans h1_) (by decide), z_HO134, Q_HA_HO134, fun _ _ => (by repeat (first | (with_reducible first | exact HI0.out | apply IsS50.alloc | apply IsS50.drewN | apply IsS50.drew | apply IsS50.set_1 | refine IsS50.far ?_ NB0_115.out _) | exact HI0.out)), fun h0_ => absurd ((hoff 8 (by kernel_rfl)).symm.trans h0_) (by decide), fun h0_ => absurd ((hoff 8 (by kernel_rfl)).symm.trans h0_) (by decide), fun h0_ => absurd ((hoff 10 (by kernel_rfl)).symm.trans h0_) (by decide), fun h0_ => absurd ((hoff 6 (by kernel_rfl)).symm.trans h0_) (by decide), fun h0_ => absurd ((hoff 11 (by kernel_rfl)).symm.trans h0_) (by decide)⟩
                            refine steps_cons ?_ ?_
                            · rintro b a w' ⟨v133, adz_v133, v139, adz_v139, m6_, m11_, ha, Q_HO122, Q_HO125, Q_BK115, Q_HI0, Q_HK, Q_HB, Q_HI0_e1, Q_HO134, Q_HA_HO134, Q_HI0_e5, Q_HO140, Q_HA_HO140, Q_HI0_e10, Q_X6_, Q_X11_⟩ hb_ hon hoff
                              refine ⟨_, rfl, fun K hK => ?_⟩
                              have e26 : a.tmps[26]? = some (v133) := by rw [ha]; exact putSel_on (e := (3, 26, v133)) 2 rfl rfl (hon 3 (by kernel_rfl)) rfl
                              have e28 : a.tmps[28]? = some (.int .i64 t135) := by rw [ha]; exact putSel_on (e := (5, 28, .int .i64 t135)) 3 rfl rfl (hon 5 (by kernel_rfl)) rfl
                              replace ha := Aside0.mk ha
                              have HO122 := Aside0.mk Q_HO122
                              have HO125 := Aside0.mk Q_HO125
                              have BK115 := Aside0.mk Q_BK115
                              have HK := Aside0.mk Q_HK
                              have HB := Aside0.mk Q_HB
                              have HO134 := Aside0.mk (Q_HO134 (hon 3 (by kernel_rfl)))
                              have HA_HO134 := Aside0.mk (Q_HA_HO134 (hon 3 (by kernel_rfl)))
                              obtain ⟨c_, hv_⟩ := HA_HO134.out
                              rw [hv_] at e26
                              refine value_ (w1 := w') (v := .pointer (some (adz_v133.add (t135).toNat))) (by rfl) rfl ?_ ?_
                              · go_simp
                                (try simp only [i64_w])
                                try rfl
                              refine hK.out _ _ ⟨v133, adz_v133, v139, adz_v139, (.pointer (some (adz_v133.add (t135).toNat))), m11_, (by rw [ha.out]; exact putSel_upk 4 hb_ rfl rfl rfl), Q_HO122, Q_HO125, Q_BK115, fun h0_ => absurd ((hon 1 (by kernel_rfl)).symm.trans h0_) (by decide), Q_HK, Q_HB, fun _ h1_ => absurd ((hon 5 (by kernel_rfl)).symm.trans h1_) (by decide), Q_HO134, Q_HA_HO134, Q_HI0_e5, fun h0_ => absurd ((hoff 8 (by kernel_rfl)).symm.trans h0_) (by decide), fun h0_ => absurd ((hoff 8 (by kernel_rfl)).symm.trans h0_) (by decide), Q_HI0_e10, fun _ => rfl, fun h0_ => absurd ((hoff 11 (by kernel_rfl)).symm.trans h0_) (by decide)⟩
                            refine steps_cons ?_ ?_
                            · rintro b a w' ⟨v133, adz_v133, v139, adz_v139, m6_, m11_, ha, Q_HO122, Q_HO125, Q_BK115, Q_HI0, Q_HK, Q_HB, Q_HI0_e1, Q_HO134, Q_HA_HO134, Q_HI0_e5, Q_HO140, Q_HA_HO140, Q_HI0_e10, Q_X6_, Q_X11_⟩ hb_ hon hoff
                              refine ⟨_, rfl, fun K hK => ?_⟩
                              have e29 : a.tmps[29]? = some (m6_) := by rw [ha]; exact putSel_on (e := (6, 29, m6_)) 4 rfl rfl (hon 6 (by kernel_rfl)) rfl
                              rw [Q_X6_ (hon 6 (by kernel_rfl))] at e29
                              replace ha := Aside0.mk ha
                              have HO122 := Aside0.mk Q_HO122
                              have HO125 := Aside0.mk Q_HO125
                              have BK115 := Aside0.mk Q_BK115
                              have HK := Aside0.mk Q_HK
                              have HB := Aside0.mk Q_HB
                              have HO134 := Aside0.mk (Q_HO134 (hon 3 (by kernel_rfl)))
                              have HA_HO134 := Aside0.mk (Q_HA_HO134 (hon 3 (by kernel_rfl)))
                              obtain ⟨c_, hv_⟩ := HA_HO134.out
                              have hF_ := HO134.out
                              rw [hv_] at hF_
                              obtain ⟨ad_, ea_, hx_⟩ := Kd.at_int (Kd.R_reads' hF_).2.2 t135 (of_eq_true pi137) (of_eq_true qi137)
                              cases ea_
                              refine value_ (w1 := w') (v := .int .i64 (rd y132 t135)) (by rfl) rfl ?_ ?_
                              · go_simp
                                (try simp only [i64_w])
                                try rfl
                              refine hK.out _ _ ⟨v133, adz_v133, v139, adz_v139, m6_, m11_, (by rw [ha.out]; exact putSel_upk 5 hb_ rfl rfl rfl), Q_HO122, Q_HO125, Q_BK115, fun h0_ => absurd ((hon 1 (by kernel_rfl)).symm.trans h0_) (by decide), Q_HK, Q_HB, fun _ h1_ => absurd ((hon 5 (by kernel_rfl)).symm.trans h1_) (by decide), Q_HO134, Q_HA_HO134, Q_HI0_e5, fun h0_ => absurd ((hoff 8 (by kernel_rfl)).symm.trans h0_) (by decide), fun h0_ => absurd ((hoff 8 (by kernel_rfl)).symm.trans h0_) (by decide), Q_HI0_e10, Q_X6_, fun h0_ => absurd ((hoff 11 (by kernel_rfl)).symm.trans h0_) (by decide)⟩
                            refine steps_cons ?_ ?_
                            · rintro b a w' ⟨v133, adz_v133, v139, adz_v139, m6_, m11_, ha, Q_HO122, Q_HO125, Q_BK115, Q_HI0, Q_HK, Q_HB, Q_HI0_e1, Q_HO134, Q_HA_HO134, Q_HI0_e5, Q_HO140, Q_HA_HO140, Q_HI0_e10, Q_X6_, Q_X11_⟩ hb_ hon hoff
                              refine ⟨_, rfl, fun K hK => ?_⟩
                              have e25 : a.tmps[25]? = some (.int .i64 (wrap64 (1 + t130))) := by rw [ha]; exact putSel_on (e := (2, 25, .int .i64 (wrap64 (1 + t130)))) 1 rfl rfl (hon 2 (by kernel_rfl)) rfl
                              have e30 : a.tmps[30]? = some (.int .i64 (rd y132 t135)) := by rw [ha]; exact putSel_on (e := (7, 30, .int .i64 (rd y132 t135))) 5 rfl rfl (hon 7 (by kernel_rfl)) rfl
                              replace ha := Aside0.mk ha
                              have HO122 := Aside0.mk Q_HO122
                              have HO125 := Aside0.mk Q_HO125
                              have BK115 := Aside0.mk Q_BK115
                              have HK := Aside0.mk Q_HK
                              have HB := Aside0.mk Q_HB
                              have HO134 := Aside0.mk (Q_HO134 (hon 3 (by kernel_rfl)))
                              have HA_HO134 := Aside0.mk (Q_HA_HO134 (hon 3 (by kernel_rfl)))
                              obtain ⟨co41, eo41⟩ := HA_HO134.out
                              clear HA_HO134
                              subst eo41
                              refine Kd.R_lit_step (Kd.int .i64) _ 3 ?hg (N := 31) ?hd (xs := ([1, wrap64 (1 + t130), rd y132 t135, 3] : List Int)) (inner := [.int .i64 1, .int .i64 (wrap64 (1 + t130)), .int .i64 (rd y132 t135), .int .i64 3]) (ok := fun _ => True) (okp := fun _ => True) ?hr ?hp (fun _ hk => hk) trivial (Below.refl _ _) (Nat.le_refl _) (by simp) ?_; (case hd => rfl); (case hg => rfl); (case hr => first | (go_simp; done) | (go_simp; rfl)); (case hp => exact (Reps.one (show Kd.M (Kd.int .i64) _ _ _ 1 [.int .i64 1] from rfl) (Reps.one (show Kd.M (Kd.int .i64) _ _ _ (wrap64 (1 + t130)) [.int .i64 (wrap64 (1 + t130))] from rfl) (Reps.one (show Kd.M (Kd.int .i64) _ _ _ (rd y132 t135) [.int .i64 (rd y132 t135)] from rfl) (Reps.one (show Kd.M (Kd.int .i64) _ _ _ 3 [.int .i64 3] from rfl) (Reps.none _ _))))))
                              intro v139 w42 ho43 hb hg_ hnew_
                              clear hg_ hnew_
                              (first | rw [← Ny138.out] at ho43 | (simp only [Int.reduceToNat] at ho43; rw [← Ny138.out] at ho43))
                              have n0_ := Aside0.mk (Kd.R_elder' (by (with_reducible repeat (first | apply Kd.R_alloc | apply Kd.R_drewN | apply Kd.R_drew)); exact HO122.out) (Kd.R_base ho43) hb)
                              have n1_ := Aside0.mk (Kd.R_elder' (by (with_reducible repeat (first | apply Kd.R_alloc | apply Kd.R_drewN | apply Kd.R_drew)); exact HO125.out) (Kd.R_base ho43) hb)
                              have n2_ := Aside0.mk (Kd.R_elder' (by (with_reducible repeat (first | apply Kd.R_alloc | apply Kd.R_drewN | apply Kd.R_drew)); exact HO134.out) (Kd.R_base ho43) hb)
                              have n3_ := Aside0.mk (Kd.R_lower (Kd.R_new' (Kd.R_new' (Kd.R_new' ho43 (Kd.R_lt (by (with_reducible repeat (first | apply Kd.R_alloc | apply Kd.R_drewN | apply Kd.R_drew)); exact HO122.out))) (Kd.R_lt (by (with_reducible repeat (first | apply Kd.R_alloc | apply Kd.R_drewN | apply Kd.R_drew)); exact HO125.out))) (Kd.R_lt (by (with_reducible repeat (first | apply Kd.R_alloc | apply Kd.R_drewN | apply Kd.R_drew)); exact HO134.out))) (keep_size (w := w) (g := g) (row := none) (by repeat (first | (with_reducible first | exact HK.out | apply KeepBut.set_ | apply keep_drewN | apply keep_drew | apply keep_alloc | refine keep_far ?_ GW115.out _) | exact HK.out))))
                              have n5_ := Aside0.mk (blk_below (g := gb115) (o := .cells #[.int .i64 0, .int .i64 0] 24 (0, 0)) (by (with_reducible repeat (first | refine blk_drewN ?_ _ | refine blk_drew ?_ | refine blk_alloc ?_ _)); exact BK115.out) hb)
                              have n6_ := Aside0.mk (KeepBut.trans (by repeat (first | (with_reducible first | exact HK.out | apply KeepBut.set_ | apply keep_drewN | apply keep_drew | apply keep_alloc | refine keep_far ?_ GW115.out _) | exact HK.out)) (KeepBut.of_below hb g none) (.inl rfl))
                              have n7_ := Aside0.mk (below_step (by repeat (first | (with_reducible first | exact HB.out | apply below_alloc | apply pw_below_drewN | apply below_drew1 | refine below_set ?_ GE115.out) | exact HB.out)) hb)
                              have z_HI0_e5 := fun (h0_ : b 5 = true) (h1_ : b 10 = false) => (show IsS50 w0 w42 g s0_0 t136 from by first | exact (IsS50.below (by repeat (first | (with_reducible first | exact (Q_HI0_e5 h0_ h1_) | apply IsS50.alloc | apply IsS50.drewN | apply IsS50.drew | apply IsS50.set_1 | refine IsS50.far ?_ NB0_115.out _) | exact (Q_HI0_e5 h0_ h1_))) hb))
                              have z_HI0_e10 := fun (h0_ : b 10 = true) => (show IsS50 w0 w42 g s0_0 t142 from by first | exact (IsS50.below (by repeat (first | (with_reducible first | exact (Q_HI0_e10 h0_) | apply IsS50.alloc | apply IsS50.drewN | apply IsS50.drew | apply IsS50.set_1 | refine IsS50.far ?_ NB0_115.out _) | exact (Q_HI0_e10 h0_))) hb))
                              clear HO122
                              clear HO125
                              clear HO134
                              clear BK115
                              clear HK
                              clear HB
                              have HO122 := n0_
                              have HO125 := n1_
                              have HO134 := n2_
                              have HO140 := n3_
                              have BK115 := n5_
                              have HK := n6_
                              have HB := n7_
                              clear n0_ n1_ n2_ n3_ n5_ n6_ n7_
                              clear hb ho43
                              obtain ⟨Ao44, co44, eo44⟩ := Kd.R_slice HO140.out
                              subst eo44
                              obtain ⟨ado44, fo44, _⟩ := Kd.at_int (Kd.R_reads' HO140.out).2.2 0 (by decide) (by rw [Ny138.out]; simp)
                              cases fo44
                              refine hK.out _ _ ⟨.slice (some adz_v133) y132.length co41, adz_v133, .slice (some ado44) y138.length co44, ado44, m6_, m11_, (by rw [ha.out]; exact putSel_upk 6 hb_ rfl rfl rfl), (by (with_reducible repeat (first | apply Kd.R_alloc | apply Kd.R_drewN | apply Kd.R_drew)); exact Kd.R_mono HO122.out (fun _ hk => by first | grind | (simp only [true_and, and_assoc] at hk ⊢; grind))), (by (with_reducible repeat (first | apply Kd.R_alloc | apply Kd.R_drewN | apply Kd.R_drew)); exact Kd.R_mono HO125.out (fun _ hk => by first | grind | (simp only [true_and, and_assoc] at hk ⊢; grind))), (by (with_reducible repeat (first | refine blk_drewN ?_ _ | refine blk_drew ?_ | refine blk_alloc ?_ _)); exact BK115.out), fun h0_ => absurd ((hon 1 (by kernel_rfl)).symm.trans h0_) (by decide), (by repeat (first | (with_reducible first | exact HK.out | apply KeepBut.set_ | apply keep_drewN | apply keep_drew | apply keep_alloc | refine keep_far ?_ GW115.out _) | exact HK.out)), (by repeat (first | (with_reducible first | exact HB.out | apply below_alloc | apply pw_below_drewN | apply below_drew1 | refine below_set ?_ GE115.out) | exact HB.out)), fun _ h1_ => absurd ((hon 5 (by kernel_rfl)).symm.trans h1_) (by decide), fun _ => (by (with_reducible repeat (first | apply Kd.R_alloc | apply Kd.R_drewN | apply Kd.R_drew)); exact Kd.R_mono HO134.out (fun _ hk => by first | grind | (simp only [true_and, and_assoc] at hk ⊢; grind))), fun _ => ⟨_, rfl⟩, z_HI0_e5, fun _ => (by (with_reducible repeat (first | apply Kd.R_alloc | apply Kd.R_drewN | apply Kd.R_drew)); exact Kd.R_mono HO140.out (fun _ hk => by first | grind | (simp only [true_and, and_assoc] at hk ⊢; grind))), fun _ => ⟨_, rfl⟩, z_HI0_e10, Q_X6_, fun h0_ => absurd ((hoff 11 (by kernel_rfl)).symm.trans h0_) (by decide)⟩
                            refine steps_cons ?_ ?_
                            · rintro b a w' ⟨v133, adz_v133, v139, adz_v139, m6_, m11_, ha, Q_HO122, Q_HO125, Q_BK115, Q_HI0, Q_HK, Q_HB, Q_HI0_e1, Q_HO134, Q_HA_HO134, Q_HI0_e5, Q_HO140, Q_HA_HO140, Q_HI0_e10, Q_X6_, Q_X11_⟩ hb_ hon hoff
                              refine ⟨_, rfl, fun K hK => ?_⟩
                              have e32 : a.tmps[32]? = some (.pointer (some ⟨g, 0, none⟩)) := by rw [ha]; exact (putSel_off rfl).trans rfl
                              replace ha := Aside0.mk ha
                              have HO122 := Aside0.mk Q_HO122
                              have HO125 := Aside0.mk Q_HO125
                              have BK115 := Aside0.mk Q_BK115
                              have HK := Aside0.mk Q_HK
                              have HB := Aside0.mk Q_HB
                              have HI0 := Aside0.mk (Q_HI0_e5 (hon 5 (by kernel_rfl)) hb_)
                              refine goes_ Try.func30 (by kernel_rfl) rfl #[.pointer (some ⟨g, 0, none⟩), .int .i64 4] (by rfl) rfl rfl (by first | (simp only [List.map_toArray, List.map_cons, List.map_nil, Act.eval, Array.getD_eq_getD_getElem?, Option.getD_some, e32]; done) | (simp only [List.map_toArray, List.map_cons, List.map_nil, Act.eval, Array.getD_eq_getD_getElem?, Option.getD_some, e32]; rfl)) ?_
                              with_reducible refine (spec_l20Rd_pick.calls k g s0_0 t136 4 t141 t142 w0 _ ?side1 ?side2 A14.out).mono ?_
                              (case side1 => repeat (first | (with_reducible first | exact HI0.out | apply IsS50.alloc | apply IsS50.drewN | apply IsS50.drew | apply IsS50.set_1 | refine IsS50.far ?_ NB0_115.out _) | exact HI0.out))
                              (case side2 => repeat (first | (with_reducible first | exact HB.out | apply below_alloc | apply pw_below_drewN | apply below_drew1 | refine below_set ?_ (IsS50.ge HI0.out) | refine below_set ?_ GE115.out) | exact HB.out))
                              rintro e w38 ⟨rfl, hi, hb, hk⟩
                              refine ⟨_, rfl, ?_⟩
                              have n0_ := Aside0.mk (KeepBut.blk hk (g' := gb115) (o := .cells #[.int .i64 0, .int .i64 0] 24 (0, 0)) (by (with_reducible repeat (first | refine blk_drewN ?_ _ | refine blk_drew ?_ | refine blk_alloc ?_ _)); exact BK115.out) NB115_0.out (by simp))
                              have n1_ := Aside0.mk (Kd.R_mono (Kd.R_keep (IsS50.apart (show IsS50 w0 _ g s0_0 t136 from by repeat (first | (with_reducible first | exact HI0.out | apply IsS50.alloc | apply IsS50.drewN | apply IsS50.drew | apply IsS50.set_1 | refine IsS50.far ?_ NB0_115.out _) | exact HI0.out)) (by (with_reducible repeat (first | apply Kd.R_alloc | apply Kd.R_drewN | apply Kd.R_drew)); exact HO122.out) (by decide)) hk (fun _ h => h.2)) (fun _ h => h.1))
                              have n2_ := Aside0.mk (Kd.R_mono (Kd.R_keep (IsS50.apart (show IsS50 w0 _ g s0_0 t136 from by repeat (first | (with_reducible first | exact HI0.out | apply IsS50.alloc | apply IsS50.drewN | apply IsS50.drew | apply IsS50.set_1 | refine IsS50.far ?_ NB0_115.out _) | exact HI0.out)) (by (with_reducible repeat (first | apply Kd.R_alloc | apply Kd.R_drewN | apply Kd.R_drew)); exact HO125.out) (by decide)) hk (fun _ h => h.2)) (fun _ h => h.1))
                              have n3_ := Aside0.mk (KeepBut.trans (by repeat (first | (with_reducible first | exact HK.out | apply KeepBut.set_ | apply keep_drewN | apply keep_drew | apply keep_alloc | refine keep_far ?_ GW115.out _) | exact HK.out)) hk (.inl rfl))
                              have n4_ := Aside0.mk (hb)
                              have n5_ := Aside0.mk (hi)
                              have z_HO134 := fun (h0_ : b 3 = true) => (show Kd.R (Kd.int .i64) 3 w38 w.heap.size (fun k_ => some k_ ≠ (.slice (some ad129) y120.length co33 : Value).ownBlock ∧ some k_ ≠ (.slice (some ad128) y123.length co32 : Value).ownBlock) v133 y132 from by first | exact (Kd.R_mono (Kd.R_keep (IsS50.apart (show IsS50 w0 _ g s0_0 t136 from by repeat (first | (with_reducible first | exact HI0.out | apply IsS50.alloc | apply IsS50.drewN | apply IsS50.drew | apply IsS50.set_1 | refine IsS50.far ?_ NB0_115.out _) | exact HI0.out)) (by (with_reducible repeat (first | apply Kd.R_alloc | apply Kd.R_drewN | apply Kd.R_drew)); exact (Q_HO134 h0_)) (by decide)) hk (fun _ h => h.2)) (fun _ h => h.1)) | exact Kd.R_mono (Kd.R_mono (Kd.R_keep (IsS50.apart (show IsS50 w0 _ g s0_0 t136 from by repeat (first | (with_reducible first | exact HI0.out | apply IsS50.alloc | apply IsS50.drewN | apply IsS50.drew | apply IsS50.set_1 | refine IsS50.far ?_ NB0_115.out _) | exact HI0.out)) (by (with_reducible repeat (first | apply Kd.R_alloc | apply Kd.R_drewN | apply Kd.R_drew)); exact (Q_HO134 h0_)) (by decide)) hk (fun _ h => h.2)) (fun _ h => h.1)) (fun _ h_ => by first | trivial | exact h_ | exact h_.1))
                              have z_HO140 := fun (h0_ : b 8 = true) => (show Kd.R (Kd.int .i64) 3 w38 w.heap.size (fun k_ => some k_ ≠ (.slice (some ad129) y120.length co33 : Value).ownBlock ∧ some k_ ≠ (.slice (some ad128) y123.length co32 : Value).ownBlock) v139 y138 from by first | exact (Kd.R_mono (Kd.R_keep (IsS50.apart (show IsS50 w0 _ g s0_0 t136 from by repeat (first | (with_reducible first | exact HI0.out | apply IsS50.alloc | apply IsS50.drewN | apply IsS50.drew | apply IsS50.set_1 | refine IsS50.far ?_ NB0_115.out _) | exact HI0.out)) (by (with_reducible repeat (first | apply Kd.R_alloc | apply Kd.R_drewN | apply Kd.R_drew)); exact (Q_HO140 h0_)) (by decide)) hk (fun _ h => h.2)) (fun _ h => h.1)) | exact Kd.R_mono (Kd.R_mono (Kd.R_keep (IsS50.apart (show IsS50 w0 _ g s0_0 t136 from by repeat (first | (with_reducible first | exact HI0.out | apply IsS50.alloc | apply IsS50.drewN | apply IsS50.drew | apply IsS50.set_1 | refine IsS50.far ?_ NB0_115.out _) | exact HI0.out)) (by (with_reducible repeat (first | apply Kd.R_alloc | apply Kd.R_drewN | apply Kd.R_drew)); exact (Q_HO140 h0_)) (by decide)) hk (fun _ h => h.2)) (fun _ h => h.1)) (fun _ h_ => by first | trivial | exact h_ | exact h_.1))
                              clear BK115
                              clear HO122
                              clear HO125
                              clear HK
                              clear HB
                              clear HI0
                              have BK115 := n0_
                              have HO122 := n1_
                              have HO125 := n2_
                              have HK := n3_
                              have HB := n4_
                              have HI0 := n5_
                              clear n0_ n1_ n2_ n3_ n4_ n5_
                              (try clear hb)
                              (try clear hb2)
                              (try clear hk)
                              (try clear hi)
                              refine hK.out _ _ ⟨v133, adz_v133, v139, adz_v139, m6_, m11_, (by rw [ha.out]; exact putSel_upk 7 hb_ rfl rfl rfl), (by (with_reducible repeat (first | apply Kd.R_alloc | apply Kd.R_drewN | apply Kd.R_drew)); exact HO122.out), (by (with_reducible repeat (first | apply Kd.R_alloc | apply Kd.R_drewN | apply Kd.R_drew)); exact HO125.out), (by (with_reducible repeat (first | refine blk_drewN ?_ _ | refine blk_drew ?_ | refine blk_alloc ?_ _)); exact BK115.out), fun h0_ => absurd ((hon 1 (by kernel_rfl)).symm.trans h0_) (by decide), (by repeat (first | (with_reducible first | exact HK.out | apply KeepBut.set_ | apply keep_drewN | apply keep_drew | apply keep_alloc | refine keep_far ?_ GW115.out _) | exact HK.out)), (by repeat (first | (with_reducible first | exact HB.out | apply below_alloc | apply pw_below_drewN | apply below_drew1 | refine below_set ?_ (IsS50.ge HI0.out) | refine below_set ?_ GE115.out) | exact HB.out)), fun _ h1_ => absurd ((hon 5 (by kernel_rfl)).symm.trans h1_) (by decide), z_HO134, Q_HA_HO134, fun _ h1_ => absurd ((up_self b 10).symm.trans h1_) (by decide), z_HO140, Q_HA_HO140, fun _ => (by repeat (first | (with_reducible first | exact HI0.out | apply IsS50.alloc | apply IsS50.drewN | apply IsS50.drew | apply IsS50.set_1 | refine IsS50.far ?_ NB0_115.out _) | exact HI0.out)), Q_X6_, fun h0_ => absurd ((hoff 11 (by kernel_rfl)).symm.trans h0_) (by decide)⟩
                            refine steps_cons ?_ ?_
                            · rintro b a w' ⟨v133, adz_v133, v139, adz_v139, m6_, m11_, ha, Q_HO122, Q_HO125, Q_BK115, Q_HI0, Q_HK, Q_HB, Q_HI0_e1, Q_HO134, Q_HA_HO134, Q_HI0_e5, Q_HO140, Q_HA_HO140, Q_HI0_e10, Q_X6_, Q_X11_⟩ hb_ hon hoff
                              refine ⟨_, rfl, fun K hK => ?_⟩
                              have e31 : a.tmps[31]? = some (v139) := by rw [ha]; exact putSel_on (e := (8, 31, v139)) 6 rfl rfl (hon 8 (by kernel_rfl)) rfl
                              have e33 : a.tmps[33]? = some (.int .i64 t141) := by rw [ha]; exact putSel_on (e := (10, 33, .int .i64 t141)) 7 rfl rfl (hon 10 (by kernel_rfl)) rfl
                              replace ha := Aside0.mk ha
                              have HO122 := Aside0.mk Q_HO122
                              have HO125 := Aside0.mk Q_HO125
                              have BK115 := Aside0.mk Q_BK115
                              have HK := Aside0.mk Q_HK
                              have HB := Aside0.mk Q_HB
                              have HO134 := Aside0.mk (Q_HO134 (hon 3 (by kernel_rfl)))
                              have HA_HO134 := Aside0.mk (Q_HA_HO134 (hon 3 (by kernel_rfl)))
                              have HO140 := Aside0.mk (Q_HO140 (hon 8 (by kernel_rfl)))
                              have HA_HO140 := Aside0.mk (Q_HA_HO140 (hon 8 (by kernel_rfl)))
                              have HI0 := Aside0.mk (Q_HI0_e10 (hon 10 (by kernel_rfl)))
                              obtain ⟨c_, hv_⟩ := HA_HO140.out
                              rw [hv_] at e31
                              refine value_ (w1 := w') (v := .pointer (some (adz_v139.add (t141).toNat))) (by rfl) rfl ?_ ?_
                              · go_simp
                                (try simp only [i64_w])
                                try rfl
                              refine hK.out _ _ ⟨v133, adz_v133, v139, adz_v139, m6_, (.pointer (some (adz_v139.add (t141).toNat))), (by rw [ha.out]; exact putSel_upk 8 hb_ rfl rfl rfl), Q_HO122, Q_HO125, Q_BK115, fun h0_ => absurd ((hon 1 (by kernel_rfl)).symm.trans h0_) (by decide), Q_HK, Q_HB, fun _ h1_ => absurd ((hon 5 (by kernel_rfl)).symm.trans h1_) (by decide), Q_HO134, Q_HA_HO134, fun _ h1_ => absurd ((hon 10 (by kernel_rfl)).symm.trans h1_) (by decide), Q_HO140, Q_HA_HO140, Q_HI0_e10, Q_X6_, fun _ => rfl⟩
                            refine steps_cons ?_ ?_
                            · rintro b a w' ⟨v133, adz_v133, v139, adz_v139, m6_, m11_, ha, Q_HO122, Q_HO125, Q_BK115, Q_HI0, Q_HK, Q_HB, Q_HI0_e1, Q_HO134, Q_HA_HO134, Q_HI0_e5, Q_HO140, Q_HA_HO140, Q_HI0_e10, Q_X6_, Q_X11_⟩ hb_ hon hoff
                              refine ⟨_, rfl, fun K hK => ?_⟩
                              have e34 : a.tmps[34]? = some (m11_) := by rw [ha]; exact putSel_on (e := (11, 34, m11_)) 8 rfl rfl (hon 11 (by kernel_rfl)) rfl
                              rw [Q_X11_ (hon 11 (by kernel_rfl))] at e34
                              replace ha := Aside0.mk ha
                              have HO122 := Aside0.mk Q_HO122
                              have HO125 := Aside0.mk Q_HO125
                              have BK115 := Aside0.mk Q_BK115
                              have HK := Aside0.mk Q_HK
                              have HB := Aside0.mk Q_HB
                              have HO134 := Aside0.mk (Q_HO134 (hon 3 (by kernel_rfl)))
                              have HA_HO134 := Aside0.mk (Q_HA_HO134 (hon 3 (by kernel_rfl)))
                              have HO140 := Aside0.mk (Q_HO140 (hon 8 (by kernel_rfl)))
                              have HA_HO140 := Aside0.mk (Q_HA_HO140 (hon 8 (by kernel_rfl)))
                              have HI0 := Aside0.mk (Q_HI0_e10 (hon 10 (by kernel_rfl)))
                              obtain ⟨c_, hv_⟩ := HA_HO140.out
                              have hF_ := HO140.out
                              rw [hv_] at hF_
                              obtain ⟨ad_, ea_, hx_⟩ := Kd.at_int (Kd.R_reads' hF_).2.2 t141 (of_eq_true pi143) (of_eq_true qi143)
                              cases ea_
                              refine value_ (w1 := w') (v := .int .i64 (rd y138 t141)) (by rfl) rfl ?_ ?_
                              · go_simp
                                (try simp only [i64_w])
                                try rfl
                              refine hK.out _ _ ⟨v133, adz_v133, v139, adz_v139, m6_, m11_, (by rw [ha.out]; exact putSel_upk 9 hb_ rfl rfl rfl), Q_HO122, Q_HO125, Q_BK115, fun h0_ => absurd ((hon 1 (by kernel_rfl)).symm.trans h0_) (by decide), Q_HK, Q_HB, fun _ h1_ => absurd ((hon 5 (by kernel_rfl)).symm.trans h1_) (by decide), Q_HO134, Q_HA_HO134, fun _ h1_ => absurd ((hon 10 (by kernel_rfl)).symm.trans h1_) (by decide), Q_HO140, Q_HA_HO140, Q_HI0_e10, Q_X6_, Q_X11_⟩
                            refine steps_cons ?_ ?_
                            · rintro b a w' ⟨v133, adz_v133, v139, adz_v139, m6_, m11_, ha, Q_HO122, Q_HO125, Q_BK115, Q_HI0, Q_HK, Q_HB, Q_HI0_e1, Q_HO134, Q_HA_HO134, Q_HI0_e5, Q_HO140, Q_HA_HO140, Q_HI0_e10, Q_X6_, Q_X11_⟩ hb_ hon hoff
                              refine ⟨_, rfl, fun K hK => ?_⟩
                              have e35 : a.tmps[35]? = some (.int .i64 (rd y138 t141)) := by rw [ha]; exact putSel_on (e := (12, 35, .int .i64 (rd y138 t141))) 9 rfl rfl (hon 12 (by kernel_rfl)) rfl
                              replace ha := Aside0.mk ha
                              have HO122 := Aside0.mk Q_HO122
                              have HO125 := Aside0.mk Q_HO125
                              have BK115 := Aside0.mk Q_BK115
                              have HK := Aside0.mk Q_HK
                              have HB := Aside0.mk Q_HB
                              have HO134 := Aside0.mk (Q_HO134 (hon 3 (by kernel_rfl)))
                              have HA_HO134 := Aside0.mk (Q_HA_HO134 (hon 3 (by kernel_rfl)))
                              have HO140 := Aside0.mk (Q_HO140 (hon 8 (by kernel_rfl)))
                              have HA_HO140 := Aside0.mk (Q_HA_HO140 (hon 8 (by kernel_rfl)))
                              have HI0 := Aside0.mk (Q_HI0_e10 (hon 10 (by kernel_rfl)))
                              refine value_ (w1 := w') (v := .int .i64 (rd y138 t141)) (by rfl) rfl ?_ ?_
                              · go_simp
                                (try simp only [i64_w])
                                try rfl
                              refine hK.out _ _ ⟨v133, adz_v133, v139, adz_v139, m6_, m11_, (by rw [ha.out]; exact putSel_upk 10 hb_ rfl rfl rfl), Q_HO122, Q_HO125, Q_BK115, fun h0_ => absurd ((hon 1 (by kernel_rfl)).symm.trans h0_) (by decide), Q_HK, Q_HB, fun _ h1_ => absurd ((hon 5 (by kernel_rfl)).symm.trans h1_) (by decide), Q_HO134, Q_HA_HO134, fun _ h1_ => absurd ((hon 10 (by kernel_rfl)).symm.trans h1_) (by decide), Q_HO140, Q_HA_HO140, Q_HI0_e10, Q_X6_, Q_X11_⟩
                            exact steps_nil
                          rintro b a w44 hall ⟨v133, adz_v133, v139, adz_v139, m6_, m11_, ha, Q_HO122, Q_HO125, Q_BK115, Q_HI0, Q_HK, Q_HB, Q_HI0_e1, Q_HO134, Q_HA_HO134, Q_HI0_e5, Q_HO140, Q_HA_HO140, Q_HI0_e10, Q_X6_, Q_X11_⟩
                          clear BK115 HB HI0 HK HO122 HO125
                          have hb1_ := hall 1 (by kernel_rfl)
                          have hb2_ := hall 2 (by kernel_rfl)
                          have hb3_ := hall 3 (by kernel_rfl)
                          have hb5_ := hall 5 (by kernel_rfl)
                          have hb6_ := hall 6 (by kernel_rfl)
                          have hb7_ := hall 7 (by kernel_rfl)
                          have hb8_ := hall 8 (by kernel_rfl)
                          have hb10_ := hall 10 (by kernel_rfl)
                          have hb11_ := hall 11 (by kernel_rfl)
                          have hb12_ := hall 12 (by kernel_rfl)
                          have hb13_ := hall 13 (by kernel_rfl)
                          subst ha
                          obtain rfl := Q_X6_ hb6_
                          obtain rfl := Q_X11_ hb11_
                          simp only [putSel, hb1_, hb2_, hb3_, hb5_, hb6_, hb7_, hb8_, hb10_, hb11_, hb12_, hb13_, if_true, Act.put, List.setIfInBounds_toArray, List.set_cons_zero, List.set_cons_succ]
                          have HO122 := Aside0.mk Q_HO122
                          clear Q_HO122
                          have HO125 := Aside0.mk Q_HO125
                          clear Q_HO125
                          have BK115 := Aside0.mk Q_BK115
                          clear Q_BK115
                          clear Q_HI0
                          have HK := Aside0.mk Q_HK
                          clear Q_HK
                          have HB := Aside0.mk Q_HB
                          clear Q_HB
                          clear Q_HI0_e1
                          have HO134 := Aside0.mk (Q_HO134 hb3_)
                          clear Q_HO134
                          have HA_HO134 := Aside0.mk (Q_HA_HO134 hb3_)
                          clear Q_HA_HO134
                          clear Q_HI0_e5
                          have HO140 := Aside0.mk (Q_HO140 hb8_)
                          clear Q_HO140
                          have HA_HO140 := Aside0.mk (Q_HA_HO140 hb8_)
                          clear Q_HA_HO140
                          have HI0 := Aside0.mk (Q_HI0_e10 hb10_)
                          clear Q_HI0_e10
                          clear hall hb1_ hb2_ hb3_ hb5_ hb6_ hb7_ hb8_ hb10_ hb11_ hb12_ hb13_
                          obtain ⟨co45, eo45⟩ := HA_HO134.out
                          clear HA_HO134
                          subst eo45
                          obtain ⟨co46, eo46⟩ := HA_HO140.out
                          clear HA_HO140
                          subst eo46
                          try go_wp2_with (first | ((with_reducible refine gate_callee (f := 40) rfl ?_); refine goesL_ (some 38) rfl rfl Try.func40 (by kernel_rfl) rfl #[.int .i64 (rd y120 (rd y123 t126)), .int .i64 (rd y138 t141)] rfl (by (try simp only [List.map_toArray, List.map_cons, List.map_nil]); first | done | rfl | (simp only [List.length_drop, List.length_take]; rfl)) ?_; (with_reducible refine (spec_l2Gcd.calls k (rd y120 (rd y123 t126)) (rd y138 t141) t144 _ A17.out).mono ?_); rintro e w47 ⟨rfl, hb⟩; refine ⟨_, rfl, ?_⟩; have n0_ := Aside0.mk (Kd.R_below (by (with_reducible repeat (first | apply Kd.R_alloc | apply Kd.R_drewN | apply Kd.R_drew)); exact HO122.out) hb); have n1_ := Aside0.mk (Kd.R_below (by (with_reducible repeat (first | apply Kd.R_alloc | apply Kd.R_drewN | apply Kd.R_drew)); exact HO125.out) hb); have n2_ := Aside0.mk (Kd.R_below (by (with_reducible repeat (first | apply Kd.R_alloc | apply Kd.R_drewN | apply Kd.R_drew)); exact HO134.out) hb); have n3_ := Aside0.mk (Kd.R_below (by (with_reducible repeat (first | apply Kd.R_alloc | apply Kd.R_drewN | apply Kd.R_drew)); exact HO140.out) hb); have n4_ := Aside0.mk (IsS50.below (by repeat (first | (with_reducible first | exact HI0.out | apply IsS50.alloc | apply IsS50.drewN | apply IsS50.drew | apply IsS50.set_1 | refine IsS50.far ?_ NB0_115.out _) | exact HI0.out)) hb); have n5_ := Aside0.mk (blk_below (g := gb115) (o := .cells #[.int .i64 0, .int .i64 0] 24 (0, 0)) (by (with_reducible repeat (first | refine blk_drewN ?_ _ | refine blk_drew ?_ | refine blk_alloc ?_ _)); exact BK115.out) hb); have n6_ := Aside0.mk (KeepBut.trans (by repeat (first | (with_reducible first | exact HK.out | apply KeepBut.set_ | apply keep_drewN | apply keep_drew | apply keep_alloc | refine keep_far ?_ GW115.out _) | exact HK.out)) (KeepBut.of_below hb g none) (.inl rfl)); have n7_ := Aside0.mk (below_step (by repeat (first | (with_reducible first | exact HB.out | apply below_alloc | apply pw_below_drewN | apply below_drew1 | refine below_set ?_ (IsS50.ge HI0.out) | refine below_set ?_ GE115.out) | exact HB.out)) hb); clear HO122; clear HO125; clear HO134; clear HO140; clear HI0; clear BK115; clear HK; clear HB; have HO122 := n0_; have HO125 := n1_; have HO134 := n2_; have HO140 := n3_; have HI0 := n4_; have BK115 := n5_; have HK := n6_; have HB := n7_; clear n0_ n1_ n2_ n3_ n4_ n5_ n6_ n7_; (try clear hb); (try clear hb2); (try clear hk); (try clear hi)))
                          have n0_ := Aside0.mk (Kd.R_drew HO122.out)
                          have n1_ := Aside0.mk (Kd.R_drew HO125.out)
                          have n2_ := Aside0.mk (Kd.R_drew HO134.out)
                          have n3_ := Aside0.mk (Kd.R_drew HO140.out)
                          have n4_ := Aside0.mk (blk_drew BK115.out)
                          have n5_ := Aside0.mk (IsS50.drew HI0.out)
                          have n6_ := Aside0.mk (keep_drew HK.out)
                          have n7_ := Aside0.mk (below_drew1 HB.out)
                          clear HO122
                          clear HO125
                          clear HO134
                          clear HO140
                          clear BK115
                          clear HI0
                          clear HK
                          clear HB
                          have HO122 := n0_
                          have HO125 := n1_
                          have HO134 := n2_
                          have HO140 := n3_
                          have BK115 := n4_
                          have HI0 := n5_
                          have HK := n6_
                          have HB := n7_
                          clear n0_ n1_ n2_ n3_ n4_ n5_ n6_ n7_
                          refine start_ (n := 9) (S := fun w' => True) (ds := []) #[false, false, false, false, false, false, false, false, false] (by kernel_rfl) rfl rfl trivial (fun hHeld => ?_); refine with_tabW spec_l20Fraction.tab4 spec_l20Fraction.bits4 (fun HT_ HW_ => ?_)
                          generalize w47.drew = w48 at HO122 HO125 HO134 HO140 BK115 HI0 HK HB hHeld ⊢
                          refine pure_ (i := 0) (N := some 39) (v := ?_) (a' := ?_) #[true, false, false, false, false, false, false, false, false] rfl rfl (any_of HT_.out (by kernel_rfl)) (fun _ _ _ h => h) (Or.inl ⟨by rfl, ?_⟩) ?_ ?_
                          rotate_left
                          · intro w'
                            go_simp
                            with_reducible rfl
                          rotate_left
                          · simp only [Act.put, List.setIfInBounds_toArray, List.set_cons_zero, List.set_cons_succ, i64_w, i32_w]
                            rfl
                          refine pure_ (i := 1) (N := some 40) (v := ?_) (a' := ?_) #[true, true, false, false, false, false, false, false, false] rfl rfl (any_of HT_.out (by kernel_rfl)) (fun _ _ _ h => h) (Or.inl ⟨by rfl, ?_⟩) ?_ ?_
                          rotate_left
                          · intro w'
                            go_simp
                            with_reducible rfl
                          rotate_left
                          · simp only [Act.put, List.setIfInBounds_toArray, List.set_cons_zero, List.set_cons_succ, i64_w, i32_w]
                            rfl
                          refine pure_ (i := 2) (N := some 41) (v := ?_) (a' := ?_) #[true, true, true, false, false, false, false, false, false] rfl rfl (any_of HT_.out (by kernel_rfl)) (fun _ _ _ h => h) (Or.inl ⟨by rfl, ?_⟩) ?_ ?_
                          rotate_left
                          · intro w'
                            go_simp
                            with_reducible rfl
                          rotate_left
                          · simp only [Act.put, List.setIfInBounds_toArray, List.set_cons_zero, List.set_cons_succ, i64_w, i32_w]
                            rfl
                          refine pure_ (i := 3) (N := some 42) (v := ?_) (a' := ?_) #[true, true, true, true, false, false, false, false, false] rfl rfl (any_of HT_.out (by kernel_rfl)) (fun _ _ _ h => h) (Or.inl ⟨by rfl, ?_⟩) ?_ ?_
                          rotate_left
                          · intro w'
                            go_simp
                            with_reducible rfl
                          rotate_left
                          · simp only [Act.put, List.setIfInBounds_toArray, List.set_cons_zero, List.set_cons_succ, i64_w, i32_w]
                            rfl
                          refine pure_ (i := 4) (N := some 43) (v := ?_) (a' := ?_) #[true, true, true, true, true, false, false, false, false] rfl rfl (any_of HT_.out (by kernel_rfl)) (fun _ _ _ h => h) (Or.inl ⟨by rfl, ?_⟩) ?_ ?_
                          rotate_left
                          · intro w'
                            go_simp
                            with_reducible rfl
                          rotate_left
                          · simp only [Act.put, List.setIfInBounds_toArray, List.set_cons_zero, List.set_cons_succ, i64_w, i32_w]
                            rfl
                          refine pure_ (i := 5) (N := some 44) (v := ?_) (a' := ?_) #[true, true, true, true, true, true, false, false, false] rfl rfl (any_of HT_.out (by kernel_rfl)) (fun _ _ _ h => h) (Or.inl ⟨by rfl, ?_⟩) ?_ ?_
                          rotate_left
                          · intro w'
                            go_simp
                            with_reducible rfl
                          rotate_left
                          · simp only [Act.put, List.setIfInBounds_toArray, List.set_cons_zero, List.set_cons_succ, i64_w, i32_w]
                            rfl
                          refine pure_ (i := 6) (N := some 45) (v := ?_) (a' := ?_) #[true, true, true, true, true, true, true, false, false] rfl rfl (any_of HT_.out (by kernel_rfl)) (fun _ _ _ h => h) (Or.inl ⟨by rfl, ?_⟩) ?_ ?_
                          rotate_left
                          · intro w'
                            go_simp
                            with_reducible rfl
                          rotate_left
                          · simp only [Act.put, List.setIfInBounds_toArray, List.set_cons_zero, List.set_cons_succ, i64_w, i32_w]
                            rfl
                          refine one_ (i := 7) (N := some 8) #[true, true, true, true, true, true, true, true, false] rfl rfl (one_of HT_.out (by kernel_rfl)) (by decide) (fun K hK => ?_)
                          refine box_step ?hg (N := 8) ?hd (cs := #[.int .i64 0, .int .i64 0]) (t := 24) ?hr ?_; (case hd => rfl); (case hg => rfl); (case hr => first | (go_simp; done) | (go_simp; rfl))
                          intro gb145 hg w49 hbox hb
                          have n0_ := Aside0.mk (Kd.R_below (by (with_reducible repeat (first | apply Kd.R_alloc | apply Kd.R_drewN | apply Kd.R_drew)); exact HO122.out) hb)
                          have n1_ := Aside0.mk (Kd.R_below (by (with_reducible repeat (first | apply Kd.R_alloc | apply Kd.R_drewN | apply Kd.R_drew)); exact HO125.out) hb)
                          have n2_ := Aside0.mk (Kd.R_below (by (with_reducible repeat (first | apply Kd.R_alloc | apply Kd.R_drewN | apply Kd.R_drew)); exact HO134.out) hb)
                          have n3_ := Aside0.mk (Kd.R_below (by (with_reducible repeat (first | apply Kd.R_alloc | apply Kd.R_drewN | apply Kd.R_drew)); exact HO140.out) hb)
                          have n4_ := Aside0.mk (IsS50.below (by repeat (first | (with_reducible first | exact HI0.out | apply IsS50.alloc | apply IsS50.drewN | apply IsS50.drew | apply IsS50.set_1 | refine IsS50.far ?_ NB0_115.out _) | exact HI0.out)) hb)
                          have n5_ := Aside0.mk (blk_below (g := gb115) (o := .cells #[.int .i64 0, .int .i64 0] 24 (0, 0)) (by (with_reducible repeat (first | refine blk_drewN ?_ _ | refine blk_drew ?_ | refine blk_alloc ?_ _)); exact BK115.out) hb)
                          have n6_ := Aside0.mk (KeepBut.trans (by repeat (first | (with_reducible first | exact HK.out | apply KeepBut.set_ | apply keep_drewN | apply keep_drew | apply keep_alloc | refine keep_far ?_ GW115.out _) | exact HK.out)) (KeepBut.of_below hb g none) (.inl rfl))
                          have n7_ := Aside0.mk (below_step (by repeat (first | (with_reducible first | exact HB.out | apply below_alloc | apply pw_below_drewN | apply below_drew1 | refine below_set ?_ (IsS50.ge HI0.out) | refine below_set ?_ GE115.out) | exact HB.out)) hb)
                          have n8_ := Aside0.mk (hbox)
                          have n9_ := Aside0.mk ((by rw [hg]; exact (keep_size (w := w) (g := g) (row := none) (by repeat (first | (with_reducible first | exact HK.out | apply KeepBut.set_ | apply keep_drewN | apply keep_drew | apply keep_alloc | refine keep_far ?_ GW115.out _) | exact HK.out))) : w.heap.size ≤ gb145))
                          have n10_ := Aside0.mk ((Nat.le_trans HW0.out (by rw [hg]; exact (keep_size (w := w) (g := g) (row := none) (by repeat (first | (with_reducible first | exact HK.out | apply KeepBut.set_ | apply keep_drewN | apply keep_drew | apply keep_alloc | refine keep_far ?_ GW115.out _) | exact HK.out))) : w.heap.size ≤ gb145) : w0.heap.size ≤ gb145))
                          have n11_ := Aside0.mk ((by rw [hg]; exact Nat.ne_of_lt (blk_lt (g := gb115) (o := .cells #[.int .i64 0, .int .i64 0] 24 (0, 0)) (by (with_reducible repeat (first | refine blk_drewN ?_ _ | refine blk_drew ?_ | refine blk_alloc ?_ _)); exact BK115.out)) : gb115 ≠ gb145))
                          have n12_ := Aside0.mk ((by rw [hg]; exact Nat.ne_of_gt (blk_lt (g := gb115) (o := .cells #[.int .i64 0, .int .i64 0] 24 (0, 0)) (by (with_reducible repeat (first | refine blk_drewN ?_ _ | refine blk_drew ?_ | refine blk_alloc ?_ _)); exact BK115.out)) : gb145 ≠ gb115))
                          have n13_ := Aside0.mk ((by rw [hg]; exact Nat.ne_of_lt (IsS50.lt (show IsS50 w0 _ g s0_0 t142 from by repeat (first | (with_reducible first | exact HI0.out | apply IsS50.alloc | apply IsS50.drewN | apply IsS50.drew | apply IsS50.set_1 | refine IsS50.far ?_ NB0_115.out _) | exact HI0.out))) : g ≠ gb145))
                          have n14_ := Aside0.mk ((by rw [hg]; exact Nat.ne_of_gt (IsS50.lt (show IsS50 w0 _ g s0_0 t142 from by repeat (first | (with_reducible first | exact HI0.out | apply IsS50.alloc | apply IsS50.drewN | apply IsS50.drew | apply IsS50.set_1 | refine IsS50.far ?_ NB0_115.out _) | exact HI0.out))) : gb145 ≠ g))
                          clear HO122
                          clear HO125
                          clear HO134
                          clear HO140
                          clear HI0
                          clear BK115
                          clear HK
                          clear HB
                          have HO122 := n0_
                          have HO125 := n1_
                          have HO134 := n2_
                          have HO140 := n3_
                          have HI0 := n4_
                          have BK115 := n5_
                          have HK := n6_
                          have HB := n7_
                          have BK145 := n8_
                          have GW145 := n9_
                          have GE145 := n10_
                          have NB115_145 := n11_
                          have NB145_115 := n12_
                          have NB0_145 := n13_
                          have NB145_0 := n14_
                          clear n0_ n1_ n2_ n3_ n4_ n5_ n6_ n7_ n8_ n9_ n10_ n11_ n12_ n13_ n14_
                          clear hb hbox hg
                          refine hK.out _ _ trivial (fun hHeld => ?_)
                          clear hK K
                          refine norm_ (a' := ?_) ?_ ?_
                          rotate_left
                          · show Act.put _ (some 8) _ = _
                            simp only [Act.put, List.setIfInBounds_toArray, List.set_cons_zero, List.set_cons_succ, i64_w, i32_w]
                            rfl
                          refine one_ (i := 8) (N := none) #[true, true, true, true, true, true, true, true, true] rfl rfl (one_of HT_.out (by kernel_rfl)) (by decide) (fun K hK => ?_)
                          have hs50 : w49.cell? ⟨gb145, 0, none⟩ = some (.int .i64 0) := (blk_cell BK145.out 0).trans rfl
                          have hfs50 := blk_frozen BK145.out 0
                          have hns50_0 := NB115_145.out
                          have hms50_0 := NB145_115.out
                          have hs51 : w49.cell? ⟨gb145, 1, none⟩ = some (.int .i64 0) := (blk_cell BK145.out 1).trans rfl
                          have hfs51 := blk_frozen BK145.out 1
                          have hns51_0 := NB115_145.out
                          have hms51_0 := NB145_115.out
                          refine skip_ (w1 := ?_) (by rfl) rfl ?_ ?_
                          rotate_left
                          · go_simp
                            rfl
                          refine hK.out _ _ trivial (fun hHeld => ?_)
                          clear hK K
                          refine done_ (done_of HT_.out (by kernel_rfl)) ?_
                          try go_wp2_with (first | ((with_reducible refine gate_callee (f := 38) rfl ?_); refine goesL_ (some 48) rfl rfl Try.func38 (by kernel_rfl) rfl #[.pointer (some ⟨g, 0, none⟩), .int .i64 a1] rfl (by (try simp only [List.map_toArray, List.map_cons, List.map_nil]); first | done | rfl | (simp only [List.length_drop, List.length_take]; rfl)) ?_; (with_reducible refine (spec_l20Rd_odd.calls k g s0_0 t142 a1 true t147 w0 _ ?side1 ?side2 A19.out).mono ?_); (case side1 => repeat (first | (with_reducible first | exact HI0.out | apply IsS50.alloc | apply IsS50.drewN | apply IsS50.drew | apply IsS50.set_1 | refine IsS50.far ?_ NB0_115.out _ | refine IsS50.far ?_ NB0_145.out _) | exact HI0.out)); (case side2 => repeat (first | (with_reducible first | exact HB.out | apply below_alloc | apply pw_below_drewN | apply below_drew1 | refine below_set ?_ (IsS50.ge HI0.out) | refine below_set ?_ GE115.out | refine below_set ?_ GE145.out) | exact HB.out)); rintro e w52 ⟨rfl, hi, hb, hk⟩; refine ⟨_, rfl, ?_⟩; have n0_ := Aside0.mk (KeepBut.blk hk (g' := gb115) (o := .cells #[.int .i64 0, .int .i64 0] 24 (0, 0)) (by (with_reducible repeat (first | refine blk_drewN ?_ _ | refine blk_drew ?_ | refine blk_alloc ?_ _)); refine blk_far ?_ NB115_145.out _; (with_reducible repeat (first | refine blk_drewN ?_ _ | refine blk_drew ?_ | refine blk_alloc ?_ _)); refine blk_far ?_ NB115_145.out _; (with_reducible repeat (first | refine blk_drewN ?_ _ | refine blk_drew ?_ | refine blk_alloc ?_ _)); exact BK115.out) NB115_0.out (by simp)); have n1_ := Aside0.mk (Kd.R_mono (Kd.R_keep (IsS50.apart (show IsS50 w0 _ g s0_0 t142 from by repeat (first | (with_reducible first | exact HI0.out | apply IsS50.alloc | apply IsS50.drewN | apply IsS50.drew | apply IsS50.set_1 | refine IsS50.far ?_ NB0_115.out _ | refine IsS50.far ?_ NB0_145.out _) | exact HI0.out)) (by (with_reducible repeat (first | apply Kd.R_alloc | apply Kd.R_drewN | apply Kd.R_drew)); exact (Kd.R_mono (Kd.R_far (p := ⟨gb145, 1, none⟩) (Kd.R_far (p := ⟨gb145, 0, none⟩) (Kd.R_types HO122.out BK145.out (by decide)) (fun _ hk => hk.2) (.int .i64 (wrap64 (Int.tdiv (rd y120 (rd y123 t126)) t144)))) (fun _ hk => hk.2) (.int .i64 (wrap64 (Int.tdiv (rd y138 t141) t144)))) (fun _ h_ => h_.1))) (by decide)) hk (fun _ h => h.2)) (fun _ h => h.1)); have n2_ := Aside0.mk (Kd.R_mono (Kd.R_keep (IsS50.apart (show IsS50 w0 _ g s0_0 t142 from by repeat (first | (with_reducible first | exact HI0.out | apply IsS50.alloc | apply IsS50.drewN | apply IsS50.drew | apply IsS50.set_1 | refine IsS50.far ?_ NB0_115.out _ | refine IsS50.far ?_ NB0_145.out _) | exact HI0.out)) (by (with_reducible repeat (first | apply Kd.R_alloc | apply Kd.R_drewN | apply Kd.R_drew)); exact (Kd.R_mono (Kd.R_far (p := ⟨gb145, 1, none⟩) (Kd.R_far (p := ⟨gb145, 0, none⟩) (Kd.R_types HO125.out BK145.out (by decide)) (fun _ hk => hk.2) (.int .i64 (wrap64 (Int.tdiv (rd y120 (rd y123 t126)) t144)))) (fun _ hk => hk.2) (.int .i64 (wrap64 (Int.tdiv (rd y138 t141) t144)))) (fun _ h_ => h_.1))) (by decide)) hk (fun _ h => h.2)) (fun _ h => h.1)); have n3_ := Aside0.mk (Kd.R_mono (Kd.R_keep (IsS50.apart (show IsS50 w0 _ g s0_0 t142 from by repeat (first | (with_reducible first | exact HI0.out | apply IsS50.alloc | apply IsS50.drewN | apply IsS50.drew | apply IsS50.set_1 | refine IsS50.far ?_ NB0_115.out _ | refine IsS50.far ?_ NB0_145.out _) | exact HI0.out)) (by (with_reducible repeat (first | apply Kd.R_alloc | apply Kd.R_drewN | apply Kd.R_drew)); exact (Kd.R_mono (Kd.R_far (p := ⟨gb145, 1, none⟩) (Kd.R_far (p := ⟨gb145, 0, none⟩) (Kd.R_types HO134.out BK145.out (by decide)) (fun _ hk => hk.2) (.int .i64 (wrap64 (Int.tdiv (rd y120 (rd y123 t126)) t144)))) (fun _ hk => hk.2) (.int .i64 (wrap64 (Int.tdiv (rd y138 t141) t144)))) (fun _ h_ => h_.1))) (by decide)) hk (fun _ h => h.2)) (fun _ h => h.1)); have n4_ := Aside0.mk (Kd.R_mono (Kd.R_keep (IsS50.apart (show IsS50 w0 _ g s0_0 t142 from by repeat (first | (with_reducible first | exact HI0.out | apply IsS50.alloc | apply IsS50.drewN | apply IsS50.drew | apply IsS50.set_1 | refine IsS50.far ?_ NB0_115.out _ | refine IsS50.far ?_ NB0_145.out _) | exact HI0.out)) (by (with_reducible repeat (first | apply Kd.R_alloc | apply Kd.R_drewN | apply Kd.R_drew)); exact (Kd.R_mono (Kd.R_far (p := ⟨gb145, 1, none⟩) (Kd.R_far (p := ⟨gb145, 0, none⟩) (Kd.R_types HO140.out BK145.out (by decide)) (fun _ hk => hk.2) (.int .i64 (wrap64 (Int.tdiv (rd y120 (rd y123 t126)) t144)))) (fun _ hk => hk.2) (.int .i64 (wrap64 (Int.tdiv (rd y138 t141) t144)))) (fun _ h_ => h_.1))) (by decide)) hk (fun _ h => h.2)) (fun _ h => h.1)); have n5_ := Aside0.mk (KeepBut.blk hk (g' := gb145) (o := .cells #[.int .i64 (wrap64 (Int.tdiv (rd y120 (rd y123 t126)) t144)), .int .i64 (wrap64 (Int.tdiv (rd y138 t141) t144))] 24 (0, 0)) (by (with_reducible repeat (first | refine blk_drewN ?_ _ | refine blk_drew ?_ | refine blk_alloc ?_ _)); refine blk_put (cs := #[.int .i64 (wrap64 (Int.tdiv (rd y120 (rd y123 t126)) t144)), .int .i64 0]) ?_ 1 _ rfl; (with_reducible repeat (first | refine blk_drewN ?_ _ | refine blk_drew ?_ | refine blk_alloc ?_ _)); refine blk_put (cs := #[.int .i64 0, .int .i64 0]) ?_ 0 _ rfl; (with_reducible repeat (first | refine blk_drewN ?_ _ | refine blk_drew ?_ | refine blk_alloc ?_ _)); exact BK145.out) NB145_0.out (by simp)); have n6_ := Aside0.mk (KeepBut.trans (by repeat (first | (with_reducible first | exact HK.out | apply KeepBut.set_ | apply keep_drewN | apply keep_drew | apply keep_alloc | refine keep_far ?_ GW115.out _ | refine keep_far ?_ GW145.out _) | exact HK.out)) hk (.inl rfl)); have n7_ := Aside0.mk (hb); have n8_ := Aside0.mk (hi); clear BK115; clear HO122; clear HO125; clear HO134; clear HO140; clear BK145; clear HK; clear HB; clear HI0; have BK115 := n0_; have HO122 := n1_; have HO125 := n2_; have HO134 := n3_; have HO140 := n4_; have BK145 := n5_; have HK := n6_; have HB := n7_; have HI0 := n8_; clear n0_ n1_ n2_ n3_ n4_ n5_ n6_ n7_ n8_; (try clear hb); (try clear hb2); (try clear hk); (try clear hi)) | ((with_reducible refine gate_dst (N := 55) rfl ?_); refine Kd.R_lit k24 _ 24 ?hg (N := 55) ?hd (xs := ([(⟨2, 4⟩ : S24), (⟨1, 0⟩ : S24), (⟨1000000001, 1⟩ : S24), (⟨1, 1000001⟩ : S24), (⟨1, (-1)⟩ : S24), (⟨0, 0⟩ : S24)] : List (S24))) (inner := [.int .i64 2, .int .i64 4, .int .i64 1, .int .i64 0, .int .i64 1000000001, .int .i64 1, .int .i64 1, .int .i64 1000001, .int .i64 1, .int .i64 (-1), .int .i64 0, .int .i64 0]) (ok := fun _ => True) (okp := fun _ => True) ?hr ?hp (fun _ hk => hk) trivial (Below.refl _ _) (Nat.le_refl _) (by simp) ?_; (case hd => rfl); (case hg => rfl); (case hr => first | (go_simp; done) | (go_simp; rfl)); (case hp => exact (Reps.c2 (show Kd.M k24 _ _ _ (⟨2, 4⟩ : S24) [.int .i64 2, .int .i64 4] from (k24_mkM _ _ _ (⟨2, 4⟩ : S24) )) (Reps.c2 (show Kd.M k24 _ _ _ (⟨1, 0⟩ : S24) [.int .i64 1, .int .i64 0] from (k24_mkM _ _ _ (⟨1, 0⟩ : S24) )) (Reps.c2 (show Kd.M k24 _ _ _ (⟨1000000001, 1⟩ : S24) [.int .i64 1000000001, .int .i64 1] from (k24_mkM _ _ _ (⟨1000000001, 1⟩ : S24) )) (Reps.c2 (show Kd.M k24 _ _ _ (⟨1, 1000001⟩ : S24) [.int .i64 1, .int .i64 1000001] from (k24_mkM _ _ _ (⟨1, 1000001⟩ : S24) )) (Reps.c2 (show Kd.M k24 _ _ _ (⟨1, (-1)⟩ : S24) [.int .i64 1, .int .i64 (-1)] from (k24_mkM _ _ _ (⟨1, (-1)⟩ : S24) )) (Reps.c2 (show Kd.M k24 _ _ _ (⟨0, 0⟩ : S24) [.int .i64 0, .int .i64 0] from (k24_mkM _ _ _ (⟨0, 0⟩ : S24) )) (Reps.none _ _)))))))); intro v149 w53 ho54 hb hg_ hnew_; clear hg_ hnew_; (first | rw [← Ny148.out] at ho54 | (simp only [Int.reduceToNat] at ho54; rw [← Ny148.out] at ho54)); have n0_ := Aside0.mk (Kd.R_below (by (with_reducible repeat (first | apply Kd.R_alloc | apply Kd.R_drewN | apply Kd.R_drew)); exact HO122.out) hb); have n1_ := Aside0.mk (Kd.R_below (by (with_reducible repeat (first | apply Kd.R_alloc | apply Kd.R_drewN | apply Kd.R_drew)); exact HO125.out) hb); have n2_ := Aside0.mk (Kd.R_below (by (with_reducible repeat (first | apply Kd.R_alloc | apply Kd.R_drewN | apply Kd.R_drew)); exact HO134.out) hb); have n3_ := Aside0.mk (Kd.R_below (by (with_reducible repeat (first | apply Kd.R_alloc | apply Kd.R_drewN | apply Kd.R_drew)); exact HO140.out) hb); have n4_ := Aside0.mk (Kd.R_lower (Kd.R_newB (Kd.R_newB ho54 (g := gb115) (o := .cells #[.int .i64 0, .int .i64 0] 24 (0, 0)) (by (with_reducible repeat (first | refine blk_drewN ?_ _ | refine blk_drew ?_ | refine blk_alloc ?_ _)); exact BK115.out)) (g := gb145) (o := .cells #[.int .i64 (wrap64 (Int.tdiv (rd y120 (rd y123 t126)) t144)), .int .i64 (wrap64 (Int.tdiv (rd y138 t141) t144))] 24 (0, 0)) (by (with_reducible repeat (first | refine blk_drewN ?_ _ | refine blk_drew ?_ | refine blk_alloc ?_ _)); exact BK145.out)) (keep_size (w := w) (g := g) (row := none) (by repeat (first | (with_reducible first | exact HK.out | apply KeepBut.set_ | apply keep_drewN | apply keep_drew | apply keep_alloc | refine keep_far ?_ GW115.out _ | refine keep_far ?_ GW145.out _) | exact HK.out)))); have n5_ := Aside0.mk (IsS50.below (by repeat (first | (with_reducible first | exact HI0.out | apply IsS50.alloc | apply IsS50.drewN | apply IsS50.drew | apply IsS50.set_1 | refine IsS50.far ?_ NB0_115.out _ | refine IsS50.far ?_ NB0_145.out _) | exact HI0.out)) hb); have n6_ := Aside0.mk (blk_below (g := gb115) (o := .cells #[.int .i64 0, .int .i64 0] 24 (0, 0)) (by (with_reducible repeat (first | refine blk_drewN ?_ _ | refine blk_drew ?_ | refine blk_alloc ?_ _)); exact BK115.out) hb); have n7_ := Aside0.mk (blk_below (g := gb145) (o := .cells #[.int .i64 (wrap64 (Int.tdiv (rd y120 (rd y123 t126)) t144)), .int .i64 (wrap64 (Int.tdiv (rd y138 t141) t144))] 24 (0, 0)) (by (with_reducible repeat (first | refine blk_drewN ?_ _ | refine blk_drew ?_ | refine blk_alloc ?_ _)); exact BK145.out) hb); have n8_ := Aside0.mk (KeepBut.trans (by repeat (first | (with_reducible first | exact HK.out | apply KeepBut.set_ | apply keep_drewN | apply keep_drew | apply keep_alloc | refine keep_far ?_ GW115.out _ | refine keep_far ?_ GW145.out _) | exact HK.out)) (KeepBut.of_below hb g none) (.inl rfl)); have n9_ := Aside0.mk (below_step (by repeat (first | (with_reducible first | exact HB.out | apply below_alloc | apply pw_below_drewN | apply below_drew1 | refine below_set ?_ (IsS50.ge HI0.out) | refine below_set ?_ GE115.out | refine below_set ?_ GE145.out) | exact HB.out)) hb); clear HO122; clear HO125; clear HO134; clear HO140; clear HI0; clear BK115; clear BK145; clear HK; clear HB; have HO122 := n0_; have HO125 := n1_; have HO134 := n2_; have HO140 := n3_; have HO150 := n4_; have HI0 := n5_; have BK115 := n6_; have BK145 := n7_; have HK := n8_; have HB := n9_; clear n0_ n1_ n2_ n3_ n4_ n5_ n6_ n7_ n8_ n9_; clear hb ho54) | ((with_reducible refine gate_callee (f := 30) rfl ?_); refine goesL_ (some 57) rfl rfl Try.func30 (by kernel_rfl) rfl #[.pointer (some ⟨g, 0, none⟩), .int .i64 6] rfl (by (try simp only [List.map_toArray, List.map_cons, List.map_nil]); first | done | rfl | (simp only [List.length_drop, List.length_take]; rfl)) ?_; (with_reducible refine (spec_l20Rd_pick.calls k g s0_0 t147 6 t151 t152 w0 _ ?side1 ?side2 A21.out).mono ?_); (case side1 => repeat (first | (with_reducible first | exact HI0.out | apply IsS50.alloc | apply IsS50.drewN | apply IsS50.drew | apply IsS50.set_1 | refine IsS50.far ?_ NB0_115.out _ | refine IsS50.far ?_ NB0_145.out _) | exact HI0.out)); (case side2 => repeat (first | (with_reducible first | exact HB.out | apply below_alloc | apply pw_below_drewN | apply below_drew1 | refine below_set ?_ (IsS50.ge HI0.out) | refine below_set ?_ GE115.out | refine below_set ?_ GE145.out) | exact HB.out)); rintro e w55 ⟨rfl, hi, hb, hk⟩; refine ⟨_, rfl, ?_⟩; have n0_ := Aside0.mk (KeepBut.blk hk (g' := gb115) (o := .cells #[.int .i64 0, .int .i64 0] 24 (0, 0)) (by (with_reducible repeat (first | refine blk_drewN ?_ _ | refine blk_drew ?_ | refine blk_alloc ?_ _)); exact BK115.out) NB115_0.out (by simp)); have n1_ := Aside0.mk (Kd.R_mono (Kd.R_keep (IsS50.apart (show IsS50 w0 _ g s0_0 t147 from by repeat (first | (with_reducible first | exact HI0.out | apply IsS50.alloc | apply IsS50.drewN | apply IsS50.drew | apply IsS50.set_1 | refine IsS50.far ?_ NB0_115.out _ | refine IsS50.far ?_ NB0_145.out _) | exact HI0.out)) (by (with_reducible repeat (first | apply Kd.R_alloc | apply Kd.R_drewN | apply Kd.R_drew)); exact HO122.out) (by decide)) hk (fun _ h => h.2)) (fun _ h => h.1)); have n2_ := Aside0.mk (Kd.R_mono (Kd.R_keep (IsS50.apart (show IsS50 w0 _ g s0_0 t147 from by repeat (first | (with_reducible first | exact HI0.out | apply IsS50.alloc | apply IsS50.drewN | apply IsS50.drew | apply IsS50.set_1 | refine IsS50.far ?_ NB0_115.out _ | refine IsS50.far ?_ NB0_145.out _) | exact HI0.out)) (by (with_reducible repeat (first | apply Kd.R_alloc | apply Kd.R_drewN | apply Kd.R_drew)); exact HO125.out) (by decide)) hk (fun _ h => h.2)) (fun _ h => h.1)); have n3_ := Aside0.mk (Kd.R_mono (Kd.R_keep (IsS50.apart (show IsS50 w0 _ g s0_0 t147 from by repeat (first | (with_reducible first | exact HI0.out | apply IsS50.alloc | apply IsS50.drewN | apply IsS50.drew | apply IsS50.set_1 | refine IsS50.far ?_ NB0_115.out _ | refine IsS50.far ?_ NB0_145.out _) | exact HI0.out)) (by (with_reducible repeat (first | apply Kd.R_alloc | apply Kd.R_drewN | apply Kd.R_drew)); exact HO134.out) (by decide)) hk (fun _ h => h.2)) (fun _ h => h.1)); have n4_ := Aside0.mk (Kd.R_mono (Kd.R_keep (IsS50.apart (show IsS50 w0 _ g s0_0 t147 from by repeat (first | (with_reducible first | exact HI0.out | apply IsS50.alloc | apply IsS50.drewN | apply IsS50.drew | apply IsS50.set_1 | refine IsS50.far ?_ NB0_115.out _ | refine IsS50.far ?_ NB0_145.out _) | exact HI0.out)) (by (with_reducible repeat (first | apply Kd.R_alloc | apply Kd.R_drewN | apply Kd.R_drew)); exact HO140.out) (by decide)) hk (fun _ h => h.2)) (fun _ h => h.1)); have n5_ := Aside0.mk (KeepBut.blk hk (g' := gb145) (o := .cells #[.int .i64 (wrap64 (Int.tdiv (rd y120 (rd y123 t126)) t144)), .int .i64 (wrap64 (Int.tdiv (rd y138 t141) t144))] 24 (0, 0)) (by (with_reducible repeat (first | refine blk_drewN ?_ _ | refine blk_drew ?_ | refine blk_alloc ?_ _)); exact BK145.out) NB145_0.out (by simp)); have n6_ := Aside0.mk (Kd.R_mono (Kd.R_keep (IsS50.apart (show IsS50 w0 _ g s0_0 t147 from by repeat (first | (with_reducible first | exact HI0.out | apply IsS50.alloc | apply IsS50.drewN | apply IsS50.drew | apply IsS50.set_1 | refine IsS50.far ?_ NB0_115.out _ | refine IsS50.far ?_ NB0_145.out _) | exact HI0.out)) (by (with_reducible repeat (first | apply Kd.R_alloc | apply Kd.R_drewN | apply Kd.R_drew)); exact HO150.out) (by decide)) hk (fun _ h => h.2)) (fun _ h => h.1)); have n7_ := Aside0.mk (KeepBut.trans (by repeat (first | (with_reducible first | exact HK.out | apply KeepBut.set_ | apply keep_drewN | apply keep_drew | apply keep_alloc | refine keep_far ?_ GW115.out _ | refine keep_far ?_ GW145.out _) | exact HK.out)) hk (.inl rfl)); have n8_ := Aside0.mk (hb); have n9_ := Aside0.mk (hi); clear BK115; clear HO122; clear HO125; clear HO134; clear HO140; clear BK145; clear HO150; clear HK; clear HB; clear HI0; have BK115 := n0_; have HO122 := n1_; have HO125 := n2_; have HO134 := n3_; have HO140 := n4_; have BK145 := n5_; have HO150 := n6_; have HK := n7_; have HB := n8_; have HI0 := n9_; clear n0_ n1_ n2_ n3_ n4_ n5_ n6_ n7_ n8_ n9_; (try clear hb); (try clear hb2); (try clear hk); (try clear hi); obtain ⟨Ao56, co56, eo56⟩ := Kd.R_slice HO150.out; subst eo56; have p153 : 0 ≤ (t151 : Int) := of_decide_eq_true (by first | (with_reducible assumption) | assumption); have q153 : t151 < (y148.length : Int) := of_decide_eq_true (by first | (with_reducible assumption) | assumption); obtain ⟨ad153, e153, hx153_0, hx153_1⟩ := at_T24 (Kd.R_reads' HO150.out).2.2 t151 p153 q153; cases e153; replace p153 := eq_true p153; replace q153 := eq_true q153; have hnb57 := NB145_115.out; have hnc57 := NB115_145.out; have hnb58 := NB145_0.out; have hnc58 := NB0_145.out; have hcz59_0 : w55.cell? ⟨gb145, 0, none⟩ = some (.int .i64 (wrap64 (Int.tdiv (rd y120 (rd y123 t126)) t144))) := (blk_cell BK145.out 0).trans rfl; have hcz59_1 : w55.cell? ⟨gb145, 1, none⟩ = some (.int .i64 (wrap64 (Int.tdiv (rd y138 t141) t144))) := (blk_cell BK145.out 1).trans rfl; have hfz59_0 := blk_frozen BK145.out 0; have hfz59_1 := blk_frozen BK145.out 1; have hnb60 := NB115_0.out; have hnc60 := NB0_115.out; have hcz61_0 : w55.cell? ⟨gb115, 0, none⟩ = some (.int .i64 0) := (blk_cell BK115.out 0).trans rfl; have hcz61_1 : w55.cell? ⟨gb115, 1, none⟩ = some (.int .i64 0) := (blk_cell BK115.out 1).trans rfl; have hfz61_0 := blk_frozen BK115.out 0; have hfz61_1 := blk_frozen BK115.out 1))
                          refine bodyPost_ret (results_cell_row rfl _ _ gb115 24 #[.int .i64 ((rd_T24 y148 t151).f0), .int .i64 ((rd_T24 y148 t151).f1)] (0, 0) _ rfl (by (with_reducible repeat (first | refine blk_drewN ?_ _ | refine blk_drew ?_ | refine blk_alloc ?_ _)); refine blk_put (cs := #[.int .i64 ((rd_T24 y148 t151).f0), .int .i64 0]) ?_ 1 _ rfl; (with_reducible repeat (first | refine blk_drewN ?_ _ | refine blk_drew ?_ | refine blk_alloc ?_ _)); refine blk_put (cs := #[.int .i64 0, .int .i64 0]) ?_ 0 _ rfl; (with_reducible repeat (first | refine blk_drewN ?_ _ | refine blk_drew ?_ | refine blk_alloc ?_ _)); refine blk_far ?_ NB115_145.out _; (with_reducible repeat (first | refine blk_drewN ?_ _ | refine blk_drew ?_ | refine blk_alloc ?_ _)); refine blk_far ?_ NB115_145.out _; (with_reducible repeat (first | refine blk_drewN ?_ _ | refine blk_drew ?_ | refine blk_alloc ?_ _)); exact BK115.out) Try.underlying24 rfl (by kernel_rfl)) rfl ?_
                          exact ⟨by first | rfl | (simp [errW_none, errW_some] <;> rfl) | (simp [*, errW_none, errW_some] <;> rfl), by repeat (first | (with_reducible first | exact HI0.out | apply IsS50.alloc | apply IsS50.drewN | apply IsS50.drew | apply IsS50.set_1 | refine IsS50.far ?_ NB0_115.out _ | refine IsS50.far ?_ NB0_145.out _) | exact HI0.out), by repeat (first | (with_reducible first | exact HB.out | apply below_alloc | apply pw_below_drewN | apply below_drew1 | refine below_set ?_ (IsS50.ge HI0.out) | refine below_set ?_ GE115.out | refine below_set ?_ GE145.out) | exact HB.out), by repeat (first | (with_reducible first | exact HK.out | apply KeepBut.set_ | apply keep_drewN | apply keep_drew | apply keep_alloc | refine keep_far ?_ GW115.out _ | refine keep_far ?_ GW145.out _) | exact HK.out)⟩
                        · rw [if_neg c23] at H
                          exact absurd H (by simp)
                      · rw [if_neg c22] at H
                        exact absurd H (by simp)
                    · replace c20 := Bool.eq_false_iff.mpr c20
                      subst c20
                      have H1 : (some (wrap64 (Int.tdiv (rd y120 (rd y123 t126)) t144), wrap64 (Int.tdiv (rd y138 t141) t144), t147)) = some (r1, r2, r3) := by rw [if_neg (show ¬ (false = true) by decide)] at H; exact H
                      clear H
                      have H := H1
                      clear H1
                      simp only [Option.some.injEq, Prod.mk.injEq] at H
                      obtain ⟨rfl, rfl, rfl⟩ := H
                      go_enter Try.func29, Try.ntmps29
                      try go_wp2_with (first | ((with_reducible refine gate_dst (N := 4) rfl ?_); refine box_event ?hg (N := 4) ?hd (cs := #[.int .i64 0, .int .i64 0]) (t := 24) ?hr ?_; (case hd => rfl); (case hg => rfl); (case hr => first | (go_simp; done) | (go_simp; rfl)); intro gb115 hg w62 hbox hb; have n0_ := Aside0.mk (IsS50.below (by repeat (first | (with_reducible first | exact HI0.out | apply IsS50.alloc | apply IsS50.drewN | apply IsS50.drew | apply IsS50.set_1) | exact HI0.out)) hb); have n1_ := Aside0.mk (KeepBut.trans (by repeat (first | (with_reducible first | exact HK.out | apply KeepBut.set_ | apply keep_drewN | apply keep_drew | apply keep_alloc) | exact HK.out)) (KeepBut.of_below hb g none) (.inl rfl)); have n2_ := Aside0.mk (below_step (by repeat (first | (with_reducible first | exact HB.out | apply below_alloc | apply pw_below_drewN | apply below_drew1 | refine below_set ?_ (IsS50.ge HI0.out)) | exact HB.out)) hb); have n3_ := Aside0.mk (hbox); have n4_ := Aside0.mk ((by rw [hg]; exact (keep_size (w := w) (g := g) (row := none) (by repeat (first | (with_reducible first | exact HK.out | apply KeepBut.set_ | apply keep_drewN | apply keep_drew | apply keep_alloc) | exact HK.out))) : w.heap.size ≤ gb115)); have n5_ := Aside0.mk ((Nat.le_trans HW0.out (by rw [hg]; exact (keep_size (w := w) (g := g) (row := none) (by repeat (first | (with_reducible first | exact HK.out | apply KeepBut.set_ | apply keep_drewN | apply keep_drew | apply keep_alloc) | exact HK.out))) : w.heap.size ≤ gb115) : w0.heap.size ≤ gb115)); have n6_ := Aside0.mk ((by rw [hg]; exact Nat.ne_of_lt (IsS50.lt (show IsS50 w0 _ g s0_0 s0_1 from by repeat (first | (with_reducible first | exact HI0.out | apply IsS50.alloc | apply IsS50.drewN | apply IsS50.drew | apply IsS50.set_1) | exact HI0.out))) : g ≠ gb115)); have n7_ := Aside0.mk ((by rw [hg]; exact Nat.ne_of_gt (IsS50.lt (show IsS50 w0 _ g s0_0 s0_1 from by repeat (first | (with_reducible first | exact HI0.out | apply IsS50.alloc | apply IsS50.drewN | apply IsS50.drew | apply IsS50.set_1) | exact HI0.out))) : gb115 ≠ g)); clear HI0; clear HK; clear HB; have HI0 := n0_; have HK := n1_; have HB := n2_; have BK115 := n3_; have GW115 := n4_; have GE115 := n5_; have NB0_115 := n6_; have NB115_0 := n7_; clear n0_ n1_ n2_ n3_ n4_ n5_ n6_ n7_; clear hb hbox hg) | ((with_reducible refine gate_callee (f := 30) rfl ?_); refine goesL_ (some 10) rfl rfl Try.func30 (by kernel_rfl) rfl #[.pointer (some ⟨g, 0, none⟩), .int .i64 24] rfl (by (try simp only [List.map_toArray, List.map_cons, List.map_nil]); first | done | rfl | (simp only [List.length_drop, List.length_take]; rfl)) ?_; (with_reducible refine (spec_l20Rd_pick.calls k g s0_0 s0_1 24 t116 t117 w0 _ ?side1 ?side2 A3.out).mono ?_); (case side1 => repeat (first | (with_reducible first | exact HI0.out | apply IsS50.alloc | apply IsS50.drewN | apply IsS50.drew | apply IsS50.set_1 | refine IsS50.far ?_ NB0_115.out _) | exact HI0.out)); (case side2 => repeat (first | (with_reducible first | exact HB.out | apply below_alloc | apply pw_below_drewN | apply below_drew1 | refine below_set ?_ (IsS50.ge HI0.out) | refine below_set ?_ GE115.out) | exact HB.out)); rintro e w63 ⟨rfl, hi, hb, hk⟩; refine ⟨_, rfl, ?_⟩; have n0_ := Aside0.mk (KeepBut.blk hk (g' := gb115) (o := .cells #[.int .i64 0, .int .i64 0] 24 (0, 0)) (by (with_reducible repeat (first | refine blk_drewN ?_ _ | refine blk_drew ?_ | refine blk_alloc ?_ _)); exact BK115.out) NB115_0.out (by simp)); have n1_ := Aside0.mk (KeepBut.trans (by repeat (first | (with_reducible first | exact HK.out | apply KeepBut.set_ | apply keep_drewN | apply keep_drew | apply keep_alloc | refine keep_far ?_ GW115.out _) | exact HK.out)) hk (.inl rfl)); have n2_ := Aside0.mk (hb); have n3_ := Aside0.mk (hi); clear BK115; clear HK; clear HB; clear HI0; have BK115 := n0_; have HK := n1_; have HB := n2_; have HI0 := n3_; clear n0_ n1_ n2_ n3_; (try clear hb); (try clear hb2); (try clear hk); (try clear hi)) | ((with_reducible refine gate_callee (f := 30) rfl ?_); refine goesL_ (some 13) rfl rfl Try.func30 (by kernel_rfl) rfl #[.pointer (some ⟨g, 0, none⟩), .int .i64 256] rfl (by (try simp only [List.map_toArray, List.map_cons, List.map_nil]); first | done | rfl | (simp only [List.length_drop, List.length_take]; rfl)) ?_; (with_reducible refine (spec_l20Rd_pick.calls k g s0_0 t117 256 t118 t119 w0 _ ?side1 ?side2 A4.out).mono ?_); (case side1 => repeat (first | (with_reducible first | exact HI0.out | apply IsS50.alloc | apply IsS50.drewN | apply IsS50.drew | apply IsS50.set_1 | refine IsS50.far ?_ NB0_115.out _) | exact HI0.out)); (case side2 => repeat (first | (with_reducible first | exact HB.out | apply below_alloc | apply pw_below_drewN | apply below_drew1 | refine below_set ?_ (IsS50.ge HI0.out) | refine below_set ?_ GE115.out) | exact HB.out)); rintro e w64 ⟨rfl, hi, hb, hk⟩; refine ⟨_, rfl, ?_⟩; have n0_ := Aside0.mk (KeepBut.blk hk (g' := gb115) (o := .cells #[.int .i64 0, .int .i64 0] 24 (0, 0)) (by (with_reducible repeat (first | refine blk_drewN ?_ _ | refine blk_drew ?_ | refine blk_alloc ?_ _)); exact BK115.out) NB115_0.out (by simp)); have n1_ := Aside0.mk (KeepBut.trans (by repeat (first | (with_reducible first | exact HK.out | apply KeepBut.set_ | apply keep_drewN | apply keep_drew | apply keep_alloc | refine keep_far ?_ GW115.out _) | exact HK.out)) hk (.inl rfl)); have n2_ := Aside0.mk (hb); have n3_ := Aside0.mk (hi); clear BK115; clear HK; clear HB; clear HI0; have BK115 := n0_; have HK := n1_; have HB := n2_; have HI0 := n3_; clear n0_ n1_ n2_ n3_; (try clear hb); (try clear hb2); (try clear hk); (try clear hi)) | ((with_reducible refine gate_dst (N := 15) rfl ?_); refine Kd.R_lit (Kd.int .i64) _ 3 ?hg (N := 15) ?hd (xs := ([wrap64 (t116 - 12), wrap64 (t118 * 999), 1000000000, (-1000000000)] : List Int)) (inner := [.int .i64 (wrap64 (t116 - 12)), .int .i64 (wrap64 (t118 * 999)), .int .i64 1000000000, .int .i64 (-1000000000)]) (ok := fun _ => True) (okp := fun _ => True) ?hr ?hp (fun _ hk => hk) trivial (Below.refl _ _) (Nat.le_refl _) (by simp) ?_; (case hd => rfl); (case hg => rfl); (case hr => first | (go_simp; done) | (go_simp; rfl)); (case hp => exact (Reps.one (show Kd.M (Kd.int .i64) _ _ _ (wrap64 (t116 - 12)) [.int .i64 (wrap64 (t116 - 12))] from rfl) (Reps.one (show Kd.M (Kd.int .i64) _ _ _ (wrap64 (t118 * 999)) [.int .i64 (wrap64 (t118 * 999))] from rfl) (Reps.one (show Kd.M (Kd.int .i64) _ _ _ 1000000000 [.int .i64 1000000000] from rfl) (Reps.one (show Kd.M (Kd.int .i64) _ _ _ (-1000000000) [.int .i64 (-1000000000)] from rfl) (Reps.none _ _)))))); intro v121 w65 ho66 hb hg_ hnew_; clear hg_ hnew_; (first | rw [← Ny120.out] at ho66 | (simp only [Int.reduceToNat] at ho66; rw [← Ny120.out] at ho66)); have n0_ := Aside0.mk (Kd.R_lower ho66 (keep_size (w := w) (g := g) (row := none) (by repeat (first | (with_reducible first | exact HK.out | apply KeepBut.set_ | apply keep_drewN | apply keep_drew | apply keep_alloc | refine keep_far ?_ GW115.out _) | exact HK.out)))); have n1_ := Aside0.mk (IsS50.below (by repeat (first | (with_reducible first | exact HI0.out | apply IsS50.alloc | apply IsS50.drewN | apply IsS50.drew | apply IsS50.set_1 | refine IsS50.far ?_ NB0_115.out _) | exact HI0.out)) hb); have n2_ := Aside0.mk (blk_below (g := gb115) (o := .cells #[.int .i64 0, .int .i64 0] 24 (0, 0)) (by (with_reducible repeat (first | refine blk_drewN ?_ _ | refine blk_drew ?_ | refine blk_alloc ?_ _)); exact BK115.out) hb); have n3_ := Aside0.mk (KeepBut.trans (by repeat (first | (with_reducible first | exact HK.out | apply KeepBut.set_ | apply keep_drewN | apply keep_drew | apply keep_alloc | refine keep_far ?_ GW115.out _) | exact HK.out)) (KeepBut.of_below hb g none) (.inl rfl)); have n4_ := Aside0.mk (below_step (by repeat (first | (with_reducible first | exact HB.out | apply below_alloc | apply pw_below_drewN | apply below_drew1 | refine below_set ?_ (IsS50.ge HI0.out) | refine below_set ?_ GE115.out) | exact HB.out)) hb); clear HI0; clear BK115; clear HK; clear HB; have HO122 := n0_; have HI0 := n1_; have BK115 := n2_; have HK := n3_; have HB := n4_; clear n0_ n1_ n2_ n3_ n4_; clear hb ho66) | ((with_reducible refine gate_dst (N := 16) rfl ?_); refine Kd.R_lit (Kd.int .i64) _ 3 ?hg (N := 16) ?hd (xs := ([0, 0, 0, 1, 2, 3] : List Int)) (inner := [.int .i64 0, .int .i64 0, .int .i64 0, .int .i64 1, .int .i64 2, .int .i64 3]) (ok := fun _ => True) (okp := fun _ => True) ?hr ?hp (fun _ hk => hk) trivial (Below.refl _ _) (Nat.le_refl _) (by simp) ?_; (case hd => rfl); (case hg => rfl); (case hr => first | (go_simp; done) | (go_simp; rfl)); (case hp => exact (Reps.one (show Kd.M (Kd.int .i64) _ _ _ 0 [.int .i64 0] from rfl) (Reps.one (show Kd.M (Kd.int .i64) _ _ _ 0 [.int .i64 0] from rfl) (Reps.one (show Kd.M (Kd.int .i64) _ _ _ 0 [.int .i64 0] from rfl) (Reps.one (show Kd.M (Kd.int .i64) _ _ _ 1 [.int .i64 1] from rfl) (Reps.one (show Kd.M (Kd.int .i64) _ _ _ 2 [.int .i64 2] from rfl) (Reps.one (show Kd.M (Kd.int .i64) _ _ _ 3 [.int .i64 3] from rfl) (Reps.none _ _)))))))); intro v124 w67 ho68 hb hg_ hnew_; clear hg_ hnew_; (first | rw [← Ny123.out] at ho68 | (simp only [Int.reduceToNat] at ho68; rw [← Ny123.out] at ho68)); have n0_ := Aside0.mk (Kd.R_elder' (by (with_reducible repeat (first | apply Kd.R_alloc | apply Kd.R_drewN | apply Kd.R_drew)); exact HO122.out) (Kd.R_base ho68) hb); have n1_ := Aside0.mk (Kd.R_lower (Kd.R_new' ho68 (Kd.R_lt (by (with_reducible repeat (first | apply Kd.R_alloc | apply Kd.R_drewN | apply Kd.R_drew)); exact HO122.out))) (keep_size (w := w) (g := g) (row := none) (by repeat (first | (with_reducible first | exact HK.out | apply KeepBut.set_ | apply keep_drewN | apply keep_drew | apply keep_alloc | refine keep_far ?_ GW115.out _) | exact HK.out)))); have n2_ := Aside0.mk (IsS50.below (by repeat (first | (with_reducible first | exact HI0.out | apply IsS50.alloc | apply IsS50.drewN | apply IsS50.drew | apply IsS50.set_1 | refine IsS50.far ?_ NB0_115.out _) | exact HI0.out)) hb); have n3_ := Aside0.mk (blk_below (g := gb115) (o := .cells #[.int .i64 0, .int .i64 0] 24 (0, 0)) (by (with_reducible repeat (first | refine blk_drewN ?_ _ | refine blk_drew ?_ | refine blk_alloc ?_ _)); exact BK115.out) hb); have n4_ := Aside0.mk (KeepBut.trans (by repeat (first | (with_reducible first | exact HK.out | apply KeepBut.set_ | apply keep_drewN | apply keep_drew | apply keep_alloc | refine keep_far ?_ GW115.out _) | exact HK.out)) (KeepBut.of_below hb g none) (.inl rfl)); have n5_ := Aside0.mk (below_step (by repeat (first | (with_reducible first | exact HB.out | apply below_alloc | apply pw_below_drewN | apply below_drew1 | refine below_set ?_ (IsS50.ge HI0.out) | refine below_set ?_ GE115.out) | exact HB.out)) hb); clear HO122; clear HI0; clear BK115; clear HK; clear HB; have HO122 := n0_; have HO125 := n1_; have HI0 := n2_; have BK115 := n3_; have HK := n4_; have HB := n5_; clear n0_ n1_ n2_ n3_ n4_ n5_; clear hb ho68) | ((with_reducible refine gate_callee (f := 30) rfl ?_); refine goesL_ (some 18) rfl rfl Try.func30 (by kernel_rfl) rfl #[.pointer (some ⟨g, 0, none⟩), .int .i64 6] rfl (by (try simp only [List.map_toArray, List.map_cons, List.map_nil]); first | done | rfl | (simp only [List.length_drop, List.length_take]; rfl)) ?_; (with_reducible refine (spec_l20Rd_pick.calls k g s0_0 t119 6 t126 t127 w0 _ ?side1 ?side2 A5.out).mono ?_); (case side1 => repeat (first | (with_reducible first | exact HI0.out | apply IsS50.alloc | apply IsS50.drewN | apply IsS50.drew | apply IsS50.set_1 | refine IsS50.far ?_ NB0_115.out _) | exact HI0.out)); (case side2 => repeat (first | (with_reducible first | exact HB.out | apply below_alloc | apply pw_below_drewN | apply below_drew1 | refine below_set ?_ (IsS50.ge HI0.out) | refine below_set ?_ GE115.out) | exact HB.out)); rintro e w69 ⟨rfl, hi, hb, hk⟩; refine ⟨_, rfl, ?_⟩; have n0_ := Aside0.mk (KeepBut.blk hk (g' := gb115) (o := .cells #[.int .i64 0, .int .i64 0] 24 (0, 0)) (by (with_reducible repeat (first | refine blk_drewN ?_ _ | refine blk_drew ?_ | refine blk_alloc ?_ _)); exact BK115.out) NB115_0.out (by simp)); have n1_ := Aside0.mk (Kd.R_mono (Kd.R_keep (IsS50.apart (show IsS50 w0 _ g s0_0 t119 from by repeat (first | (with_reducible first | exact HI0.out | apply IsS50.alloc | apply IsS50.drewN | apply IsS50.drew | apply IsS50.set_1 | refine IsS50.far ?_ NB0_115.out _) | exact HI0.out)) (by (with_reducible repeat (first | apply Kd.R_alloc | apply Kd.R_drewN | apply Kd.R_drew)); exact HO122.out) (by decide)) hk (fun _ h => h.2)) (fun _ h => h.1)); have n2_ := Aside0.mk (Kd.R_mono (Kd.R_keep (IsS50.apart (show IsS50 w0 _ g s0_0 t119 from by repeat (first | (with_reducible first | exact HI0.out | apply IsS50.alloc | apply IsS50.drewN | apply IsS50.drew | apply IsS50.set_1 | refine IsS50.far ?_ NB0_115.out _) | exact HI0.out)) (by (with_reducible repeat (first | apply Kd.R_alloc | apply Kd.R_drewN | apply Kd.R_drew)); exact HO125.out) (by decide)) hk (fun _ h => h.2)) (fun _ h => h.1)); have n3_ := Aside0.mk (KeepBut.trans (by repeat (first | (with_reducible first | exact HK.out | apply KeepBut.set_ | apply keep_drewN | apply keep_drew | apply keep_alloc | refine keep_far ?_ GW115.out _) | exact HK.out)) hk (.inl rfl)); have n4_ := Aside0.mk (hb); have n5_ := Aside0.mk (hi); clear BK115; clear HO122; clear HO125; clear HK; clear HB; clear HI0; have BK115 := n0_; have HO122 := n1_; have HO125 := n2_; have HK := n3_; have HB := n4_; have HI0 := n5_; clear n0_ n1_ n2_ n3_ n4_ n5_; (try clear hb); (try clear hb2); (try clear hk); (try clear hi); obtain ⟨Ao70, co70, eo70⟩ := Kd.R_slice HO125.out; subst eo70; have p128 : 0 ≤ (t126 : Int) := of_decide_eq_true (by first | (with_reducible assumption) | assumption); have q128 : t126 < (y123.length : Int) := of_decide_eq_true (by first | (with_reducible assumption) | assumption); obtain ⟨ad128, e128, hx128_0⟩ := Kd.at_int (Kd.R_reads' HO125.out).2.2 t126 p128 q128; cases e128; replace p128 := eq_true p128; replace q128 := eq_true q128; obtain ⟨Ao71, co71, eo71⟩ := Kd.R_slice HO122.out; subst eo71; have p129 : 0 ≤ ((rd y123 t126) : Int) := of_decide_eq_true (by first | (with_reducible assumption) | assumption); have q129 : (rd y123 t126) < (y120.length : Int) := of_decide_eq_true (by first | (with_reducible assumption) | assumption); obtain ⟨ad129, e129, hx129_0⟩ := Kd.at_int (Kd.R_reads' HO122.out).2.2 (rd y123 t126) p129 q129; cases e129; replace p129 := eq_true p129; replace q129 := eq_true q129))
                      have pi137 : (0 ≤ (t135 : Int)) = True := eq_true (of_decide_eq_true (by first | (with_reducible assumption) | assumption))
                      have qi137 : (t135 < (y132.length : Int)) = True := eq_true (of_decide_eq_true (by first | (with_reducible assumption) | assumption))
                      have pi143 : (0 ≤ (t141 : Int)) = True := eq_true (of_decide_eq_true (by first | (with_reducible assumption) | assumption))
                      have qi143 : (t141 < (y138.length : Int)) = True := eq_true (of_decide_eq_true (by first | (with_reducible assumption) | assumption))
                      have n0_ := Aside0.mk (Kd.R_drew HO122.out)
                      have n1_ := Aside0.mk (Kd.R_drew HO125.out)
                      have n2_ := Aside0.mk (blk_drew BK115.out)
                      have n3_ := Aside0.mk (IsS50.drew HI0.out)
                      have n4_ := Aside0.mk (keep_drew HK.out)
                      have n5_ := Aside0.mk (below_drew1 HB.out)
                      clear HO122
                      clear HO125
                      clear BK115
                      clear HI0
                      clear HK
                      clear HB
                      have HO122 := n0_
                      have HO125 := n1_
                      have BK115 := n2_
                      have HI0 := n3_
                      have HK := n4_
                      have HB := n5_
                      clear n0_ n1_ n2_ n3_ n4_ n5_
                      refine start_ (n := 14) (S := fun w' => True) (ds := []) #[false, false, false, false, false, false, false, false, false, false, false, false, false, false] (by kernel_rfl) rfl rfl trivial (fun hHeld => ?_); refine with_tabW spec_l20Fraction.tab2 spec_l20Fraction.bits2 (fun HT_ HW_ => ?_)
                      generalize w69.drew = w72 at HO122 HO125 BK115 HI0 HK HB hHeld ⊢
                      refine pure_ (i := 0) (N := some 23) (v := ?_) (a' := ?_) #[true, false, false, false, false, false, false, false, false, false, false, false, false, false] rfl rfl (any_of HT_.out (by kernel_rfl)) (fun _ _ _ h => h) (Or.inl ⟨by rfl, ?_⟩) ?_ ?_
                      rotate_left
                      · intro w'
                        go_simp
                        with_reducible rfl
                      rotate_left
                      · simp only [Act.put, List.setIfInBounds_toArray, List.set_cons_zero, List.set_cons_succ, i64_w, i32_w]
                        rfl
                      refine pure_ (i := 4) (N := some 27) (v := ?_) (a' := ?_) #[true, false, false, false, true, false, false, false, false, false, false, false, false, false] rfl rfl (any_of HT_.out (by kernel_rfl)) (fun _ _ _ h => h) (Or.inl ⟨by rfl, ?_⟩) ?_ ?_
                      rotate_left
                      · intro w'
                        go_simp
                        with_reducible rfl
                      rotate_left
                      · simp only [Act.put, List.setIfInBounds_toArray, List.set_cons_zero, List.set_cons_succ, i64_w, i32_w]
                        rfl
                      refine pure_ (i := 9) (N := some 32) (v := ?_) (a' := ?_) #[true, false, false, false, true, false, false, false, false, true, false, false, false, false] rfl rfl (any_of HT_.out (by kernel_rfl)) (fun _ _ _ h => h) (Or.inl ⟨by rfl, ?_⟩) ?_ ?_
                      rotate_left
                      · intro w'
                        go_simp
                        with_reducible rfl
                      rotate_left
                      · simp only [Act.put, List.setIfInBounds_toArray, List.set_cons_zero, List.set_cons_succ, i64_w, i32_w]
                        rfl
                      refine inv_at [1, 2, 3, 5, 6, 7, 8, 10, 11, 12, 13] (fun a0_ b a w' => ∃ (v133 : Value) (adz_v133 : Addr) (v139 : Value) (adz_v139 : Addr) (m6_ : Value) (m11_ : Value), a = putSel a0_ b [(1, 24, .int .i64 t130), (2, 25, .int .i64 (wrap64 (1 + t130))), (3, 26, v133), (5, 28, .int .i64 t135), (6, 29, m6_), (7, 30, .int .i64 (rd y132 t135)), (8, 31, v139), (10, 33, .int .i64 t141), (11, 34, m11_), (12, 35, .int .i64 (rd y138 t141)), (13, 6, .int .i64 (rd y138 t141))] ∧ (Kd.R (Kd.int .i64) 3 w' w.heap.size (fun k_ => True ∧ some k_ ≠ (.slice (some ad128) y123.length co70 : Value).ownBlock) (.slice (some ad129) y120.length co71) y120) ∧ (Kd.R (Kd.int .i64) 3 w' w.heap.size (fun k_ => True ∧ some k_ ≠ (.slice (some ad129) y120.length co71 : Value).ownBlock) (.slice (some ad128) y123.length co70) y123) ∧ (w'.heap[gb115]? = some (.cells #[.int .i64 0, .int .i64 0] 24 (0, 0))) ∧ (b 1 = false → IsS50 w0 w' g s0_0 t127) ∧ (KeepBut w w' g none) ∧ (Below w0.heap.size w0 w') ∧ (b 1 = true → b 5 = false → IsS50 w0 w' g s0_0 t131) ∧ (b 3 = true → Kd.R (Kd.int .i64) 3 w' w.heap.size (fun k_ => some k_ ≠ (.slice (some ad129) y120.length co71 : Value).ownBlock ∧ some k_ ≠ (.slice (some ad128) y123.length co70 : Value).ownBlock) v133 y132) ∧ (b 3 = true → ∃ c_, (v133 : Value) = .slice (some adz_v133) y132.length c_) ∧ (b 5 = true → b 10 = false → IsS50 w0 w' g s0_0 t136) ∧ (b 8 = true → Kd.R (Kd.int .i64) 3 w' w.heap.size (fun k_ => some k_ ≠ (.slice (some ad129) y120.length co71 : Value).ownBlock ∧ some k_ ≠ (.slice (some ad128) y123.length co70 : Value).ownBlock) v139 y138) ∧ (b 8 = true → ∃ c_, (v139 : Value) = .slice (some adz_v139) y138.length c_) ∧ (b 10 = true → IsS50 w0 w' g s0_0 t142) ∧ (b 6 = true → (m6_ : Value) = .pointer (some (adz_v133.add (t135).toNat))) ∧ (b 11 = true → (m11_ : Value) = .pointer (some (adz_v139.add (t141).toNat)))) HT_.out HW_.out (by kernel_rfl) (by kernel_rfl) ?_ ?_ ?_
                      · exact ⟨.bool false, ⟨0, 0, none⟩, .bool false, ⟨0, 0, none⟩, .bool false, .bool false, by simp only [putSel, Bool.false_eq_true, if_false], HO122.out, HO125.out, BK115.out, fun _ => HI0.out, HK.out, HB.out, fun h_ => absurd h_ (by decide), fun h_ => absurd h_ (by decide), fun h_ => absurd h_ (by decide), fun h_ => absurd h_ (by decide), fun h_ => absurd h_ (by decide), fun h_ => absurd h_ (by decide), fun h_ => absurd h_ (by decide), fun h_ => absurd h_ (by decide), fun h_ => absurd h_ (by decide)⟩
                      · skip
                        clear BK115 HB HI0 HK HO122 HO125
                        refine steps_cons ?_ ?_
                        · rintro b a w' ⟨v133, adz_v133, v139, adz_v139, m6_, m11_, ha, Q_HO122, Q_HO125, Q_BK115, Q_HI0, Q_HK, Q_HB, Q_HI0_e1, Q_HO134, Q_HA_HO134, Q_HI0_e5, Q_HO140, Q_HA_HO140, Q_HI0_e10, Q_X6_, Q_X11_⟩ hb_ hon hoff
                          refine ⟨_, rfl, fun K hK => ?_⟩
                          have e23 : a.tmps[23]? = some (.pointer (some ⟨g, 0, none⟩)) := by rw [ha]; exact (putSel_off rfl).trans rfl
                          replace ha := Aside0.mk ha
                          have HO122 := Aside0.mk Q_HO122
                          have HO125 := Aside0.mk Q_HO125
                          have BK115 := Aside0.mk Q_BK115
                          have HI0 := Aside0.mk (Q_HI0 hb_)
                          have HK := Aside0.mk Q_HK
                          have HB := Aside0.mk Q_HB
                          refine goes_ Try.func30 (by kernel_rfl) rfl #[.pointer (some ⟨g, 0, none⟩), .int .i64 9] (by rfl) rfl rfl (by first | (simp only [List.map_toArray, List.map_cons, List.map_nil, Act.eval, Array.getD_eq_getD_getElem?, Option.getD_some, e23]; done) | (simp only [List.map_toArray, List.map_cons, List.map_nil, Act.eval, Array.getD_eq_getD_getElem?, Option.getD_some, e23]; rfl)) ?_
                          with_reducible refine (spec_l20Rd_pick.calls k g s0_0 t127 9 t130 t131 w0 _ ?side1 ?side2 A10.out).mono ?_
                          (case side1 => repeat (first | (with_reducible first | exact HI0.out | apply IsS50.alloc | apply IsS50.drewN | apply IsS50.drew | apply IsS50.set_1 | refine IsS50.far ?_ NB0_115.out _) | exact HI0.out))
                          (case side2 => repeat (first | (with_reducible first | exact HB.out | apply below_alloc | apply pw_below_drewN | apply below_drew1 | refine below_set ?_ (IsS50.ge HI0.out) | refine below_set ?_ GE115.out) | exact HB.out))
                          rintro e w73 ⟨rfl, hi, hb, hk⟩
                          refine ⟨_, rfl, ?_⟩
                          have n0_ := Aside0.mk (KeepBut.blk hk (g' := gb115) (o := .cells #[.int .i64 0, .int .i64 0] 24 (0, 0)) (by (with_reducible repeat (first | refine blk_drewN ?_ _ | refine blk_drew ?_ | refine blk_alloc ?_ _)); exact BK115.out) NB115_0.out (by simp))
                          have n1_ := Aside0.mk (Kd.R_mono (Kd.R_keep (IsS50.apart (show IsS50 w0 _ g s0_0 t127 from by repeat (first | (with_reducible first | exact HI0.out | apply IsS50.alloc | apply IsS50.drewN | apply IsS50.drew | apply IsS50.set_1 | refine IsS50.far ?_ NB0_115.out _) | exact HI0.out)) (by (with_reducible repeat (first | apply Kd.R_alloc | apply Kd.R_drewN | apply Kd.R_drew)); exact HO122.out) (by decide)) hk (fun _ h => h.2)) (fun _ h => h.1))
                          have n2_ := Aside0.mk (Kd.R_mono (Kd.R_keep (IsS50.apart (show IsS50 w0 _ g s0_0 t127 from by repeat (first | (with_reducible first | exact HI0.out | apply IsS50.alloc | apply IsS50.drewN | apply IsS50.drew | apply IsS50.set_1 | refine IsS50.far ?_ NB0_115.out _) | exact HI0.out)) (by (with_reducible repeat (first | apply Kd.R_alloc | apply Kd.R_drewN | apply Kd.R_drew)); exact HO125.out) (by decide)) hk (fun _ h => h.2)) (fun _ h => h.1))
                          have n3_ := Aside0.mk (KeepBut.trans (by repeat (first | (with_reducible first | exact HK.out | apply KeepBut.set_ | apply keep_drewN | apply keep_drew | apply keep_alloc | refine keep_far ?_ GW115.out _) | exact HK.out)) hk (.inl rfl))
                          have n4_ := Aside0.mk (hb)
                          have n5_ := Aside0.mk (hi)
                          have z_HO134 := fun (h0_ : b 3 = true) => (show Kd.R (Kd.int .i64) 3 w73 w.heap.size (fun k_ => some k_ ≠ (.slice (some ad129) y120.length co71 : Value).ownBlock ∧ some k_ ≠ (.slice (some ad128) y123.length co70 : Value).ownBlock) v133 y132 from by first | exact (Kd.R_mono (Kd.R_keep (IsS50.apart (show IsS50 w0 _ g s0_0 t127 from by repeat (first | (with_reducible first | exact HI0.out | apply IsS50.alloc | apply IsS50.drewN | apply IsS50.drew | apply IsS50.set_1 | refine IsS50.far ?_ NB0_115.out _) | exact HI0.out)) (by (with_reducible repeat (first | apply Kd.R_alloc | apply Kd.R_drewN | apply Kd.R_drew)); exact (Q_HO134 h0_)) (by decide)) hk (fun _ h => h.2)) (fun _ h => h.1)) | exact Kd.R_mono (Kd.R_mono (Kd.R_keep (IsS50.apart (show IsS50 w0 _ g s0_0 t127 from by repeat (first | (with_reducible first | exact HI0.out | apply IsS50.alloc | apply IsS50.drewN | apply IsS50.drew | apply IsS50.set_1 | refine IsS50.far ?_ NB0_115.out _) | exact HI0.out)) (by (with_reducible repeat (first | apply Kd.R_alloc | apply Kd.R_drewN | apply Kd.R_drew)); exact (Q_HO134 h0_)) (by decide)) hk (fun _ h => h.2)) (fun _ h => h.1)) (fun _ h_ => by first | trivial | exact h_ | exact h_.1))
                          clear BK115
                          clear HO122
                          clear HO125
                          clear HK
                          clear HB
                          clear HI0
                          have BK115 := n0_
                          have HO122 := n1_
                          have HO125 := n2_
                          have HK := n3_
                          have HB := n4_
                          have HI0 := n5_
                          clear n0_ n1_ n2_ n3_ n4_ n5_
                          (try clear hb)
                          (try clear hb2)
                          (try clear hk)
                          (try clear hi)
                          refine hK.out _ _ ⟨v133, adz_v133, v139, adz_v139, m6_, m11_, (by rw [ha.out]; exact putSel_upk 0 hb_ rfl rfl rfl), (by (with_reducible repeat (first | apply Kd.R_alloc | apply Kd.R_drewN | apply Kd.R_drew)); exact Kd.R_mono HO122.out (fun _ hk => by first | grind | (simp only [true_and, and_assoc] at hk ⊢; grind))), (by (with_reducible repeat (first | apply Kd.R_alloc | apply Kd.R_drewN | apply Kd.R_drew)); exact Kd.R_mono HO125.out (fun _ hk => by first | grind | (simp only [true_and, and_assoc] at hk ⊢; grind))), (by (with_reducible repeat (first | refine blk_drewN ?_ _ | refine blk_drew ?_ | refine blk_alloc ?_ _)); exact BK115.out), fun h0_ => absurd ((up_self b 1).symm.trans h0_) (by decide), (by repeat (first | (with_reducible first | exact HK.out | apply KeepBut.set_ | apply keep_drewN | apply keep_drew | apply keep_alloc | refine keep_far ?_ GW115.out _) | exact HK.out)), (by repeat (first | (with_reducible first | exact HB.out | apply below_alloc | apply pw_below_drewN | apply below_drew1 | refine below_set ?_ (IsS50.ge HI0.out) | refine below_set ?_ GE115.out) | exact HB.out)), fun _ _ => (by repeat (first | (with_reducible first | exact HI0.out | apply IsS50.alloc | apply IsS50.drewN | apply IsS50.drew | apply IsS50.set_1 | refine IsS50.far ?_ NB0_115.out _) | exact HI0.out)), z_HO134, Q_HA_HO134, fun h0_ _ => absurd ((hoff 5 (by kernel_rfl)).symm.trans h0_) (by decide), fun h0_ => absurd ((hoff 8 (by kernel_rfl)).symm.trans h0_) (by decide), fun h0_ => absurd ((hoff 8 (by kernel_rfl)).symm.trans h0_) (by decide), fun h0_ => absurd ((hoff 10 (by kernel_rfl)).symm.trans h0_) (by decide), fun h0_ => absurd ((hoff 6 (by kernel_rfl)).symm.trans h0_) (by decide), fun h0_ => absurd ((hoff 11 (by kernel_rfl)).symm.trans h0_) (by decide)⟩
                        refine steps_cons ?_ ?_
                        · rintro b a w' ⟨v133, adz_v133, v139, adz_v139, m6_, m11_, ha, Q_HO122, Q_HO125, Q_BK115, Q_HI0, Q_HK, Q_HB, Q_HI0_e1, Q_HO134, Q_HA_HO134, Q_HI0_e5, Q_HO140, Q_HA_HO140, Q_HI0_e10, Q_X6_, Q_X11_⟩ hb_ hon hoff
                          refine ⟨_, rfl, fun K hK => ?_⟩
                          have e24 : a.tmps[24]? = some (.int .i64 t130) := by rw [ha]; exact putSel_on (e := (1, 24, .int .i64 t130)) 0 rfl rfl (hon 1 (by kernel_rfl)) rfl
                          replace ha := Aside0.mk ha
                          have HO122 := Aside0.mk Q_HO122
                          have HO125 := Aside0.mk Q_HO125
                          have BK115 := Aside0.mk Q_BK115
                          have HK := Aside0.mk Q_HK
                          have HB := Aside0.mk Q_HB
                          refine value_ (w1 := w') (v := .int .i64 (wrap64 (1 + t130))) (by rfl) rfl ?_ ?_
                          · go_simp
                            (try simp only [i64_w])
                            try rfl
                          refine hK.out _ _ ⟨v133, adz_v133, v139, adz_v139, m6_, m11_, (by rw [ha.out]; exact putSel_upk 1 hb_ rfl rfl rfl), Q_HO122, Q_HO125, Q_BK115, fun h0_ => absurd ((hon 1 (by kernel_rfl)).symm.trans h0_) (by decide), Q_HK, Q_HB, Q_HI0_e1, Q_HO134, Q_HA_HO134, Q_HI0_e5, fun h0_ => absurd ((hoff 8 (by kernel_rfl)).symm.trans h0_) (by decide), fun h0_ => absurd ((hoff 8 (by kernel_rfl)).symm.trans h0_) (by decide), Q_HI0_e10, Q_X6_, fun h0_ => absurd ((hoff 11 (by kernel_rfl)).symm.trans h0_) (by decide)⟩
                        refine steps_cons ?_ ?_
                        · rintro b a w' ⟨v133, adz_v133, v139, adz_v139, m6_, m11_, ha, Q_HO122, Q_HO125, Q_BK115, Q_HI0, Q_HK, Q_HB, Q_HI0_e1, Q_HO134, Q_HA_HO134, Q_HI0_e5, Q_HO140, Q_HA_HO140, Q_HI0_e10, Q_X6_, Q_X11_⟩ hb_ hon hoff
                          refine ⟨_, rfl, fun K hK => ?_⟩
                          replace ha := Aside0.mk ha
                          have HO122 := Aside0.mk Q_HO122
                          have HO125 := Aside0.mk Q_HO125
                          have BK115 := Aside0.mk Q_BK115
                          have HK := Aside0.mk Q_HK
                          have HB := Aside0.mk Q_HB
                          refine Kd.R_lit_step (Kd.int .i64) _ 3 ?hg (N := 26) ?hd (xs := ([2, 4, 10, 100, 1000, 1000000] : List Int)) (inner := [.int .i64 2, .int .i64 4, .int .i64 10, .int .i64 100, .int .i64 1000, .int .i64 1000000]) (ok := fun _ => True) (okp := fun _ => True) ?hr ?hp (fun _ hk => hk) trivial (Below.refl _ _) (Nat.le_refl _) (by simp) ?_; (case hd => rfl); (case hg => rfl); (case hr => first | (go_simp; done) | (go_simp; rfl)); (case hp => exact (Reps.one (show Kd.M (Kd.int .i64) _ _ _ 2 [.int .i64 2] from rfl) (Reps.one (show Kd.M (Kd.int .i64) _ _ _ 4 [.int .i64 4] from rfl) (Reps.one (show Kd.M (Kd.int .i64) _ _ _ 10 [.int .i64 10] from rfl) (Reps.one (show Kd.M (Kd.int .i64) _ _ _ 100 [.int .i64 100] from rfl) (Reps.one (show Kd.M (Kd.int .i64) _ _ _ 1000 [.int .i64 1000] from rfl) (Reps.one (show Kd.M (Kd.int .i64) _ _ _ 1000000 [.int .i64 1000000] from rfl) (Reps.none _ _))))))))
                          intro v133 w73 ho74 hb hg_ hnew_
                          clear hg_ hnew_
                          (first | rw [← Ny132.out] at ho74 | (simp only [Int.reduceToNat] at ho74; rw [← Ny132.out] at ho74))
                          have n0_ := Aside0.mk (Kd.R_elder' (by (with_reducible repeat (first | apply Kd.R_alloc | apply Kd.R_drewN | apply Kd.R_drew)); exact HO122.out) (Kd.R_base ho74) hb)
                          have n1_ := Aside0.mk (Kd.R_elder' (by (with_reducible repeat (first | apply Kd.R_alloc | apply Kd.R_drewN | apply Kd.R_drew)); exact HO125.out) (Kd.R_base ho74) hb)
                          have n2_ := Aside0.mk (Kd.R_lower (Kd.R_new' (Kd.R_new' ho74 (Kd.R_lt (by (with_reducible repeat (first | apply Kd.R_alloc | apply Kd.R_drewN | apply Kd.R_drew)); exact HO122.out))) (Kd.R_lt (by (with_reducible repeat (first | apply Kd.R_alloc | apply Kd.R_drewN | apply Kd.R_drew)); exact HO125.out))) (keep_size (w := w) (g := g) (row := none) (by repeat (first | (with_reducible first | exact HK.out | apply KeepBut.set_ | apply keep_drewN | apply keep_drew | apply keep_alloc | refine keep_far ?_ GW115.out _) | exact HK.out))))
                          have n4_ := Aside0.mk (blk_below (g := gb115) (o := .cells #[.int .i64 0, .int .i64 0] 24 (0, 0)) (by (with_reducible repeat (first | refine blk_drewN ?_ _ | refine blk_drew ?_ | refine blk_alloc ?_ _)); exact BK115.out) hb)
                          have n5_ := Aside0.mk (KeepBut.trans (by repeat (first | (with_reducible first | exact HK.out | apply KeepBut.set_ | apply keep_drewN | apply keep_drew | apply keep_alloc | refine keep_far ?_ GW115.out _) | exact HK.out)) (KeepBut.of_below hb g none) (.inl rfl))
                          have n6_ := Aside0.mk (below_step (by repeat (first | (with_reducible first | exact HB.out | apply below_alloc | apply pw_below_drewN | apply below_drew1 | refine below_set ?_ GE115.out) | exact HB.out)) hb)
                          have z_HI0 := fun (h0_ : b 1 = false) => (show IsS50 w0 w73 g s0_0 t127 from by first | exact (IsS50.below (by repeat (first | (with_reducible first | exact (Q_HI0 h0_) | apply IsS50.alloc | apply IsS50.drewN | apply IsS50.drew | apply IsS50.set_1 | refine IsS50.far ?_ NB0_115.out _) | exact (Q_HI0 h0_))) hb))
                          have z_HI0_e1 := fun (h0_ : b 1 = true) (h1_ : b 5 = false) => (show IsS50 w0 w73 g s0_0 t131 from by first | exact (IsS50.below (by repeat (first | (with_reducible first | exact (Q_HI0_e1 h0_ h1_) | apply IsS50.alloc | apply IsS50.drewN | apply IsS50.drew | apply IsS50.set_1 | refine IsS50.far ?_ NB0_115.out _) | exact (Q_HI0_e1 h0_ h1_))) hb))
                          have z_HI0_e5 := fun (h0_ : b 5 = true) (h1_ : b 10 = false) => (show IsS50 w0 w73 g s0_0 t136 from by first | exact (IsS50.below (by repeat (first | (with_reducible first | exact (Q_HI0_e5 h0_ h1_) | apply IsS50.alloc | apply IsS50.drewN | apply IsS50.drew | apply IsS50.set_1 | refine IsS50.far ?_ NB0_115.out _) | exact (Q_HI0_e5 h0_ h1_))) hb))
                          have z_HI0_e10 := fun (h0_ : b 10 = true) => (show IsS50 w0 w73 g s0_0 t142 from by first | exact (IsS50.below (by repeat (first | (with_reducible first | exact (Q_HI0_e10 h0_) | apply IsS50.alloc | apply IsS50.drewN | apply IsS50.drew | apply IsS50.set_1 | refine IsS50.far ?_ NB0_115.out _) | exact (Q_HI0_e10 h0_))) hb))
                          clear HO122
                          clear HO125
                          clear BK115
                          clear HK
                          clear HB
                          have HO122 := n0_
                          have HO125 := n1_
                          have HO134 := n2_
                          have BK115 := n4_
                          have HK := n5_
                          have HB := n6_
                          clear n0_ n1_ n2_ n4_ n5_ n6_
                          clear hb ho74
                          obtain ⟨Ao75, co75, eo75⟩ := Kd.R_slice HO134.out
                          subst eo75
                          obtain ⟨ado75, fo75, _⟩ := Kd.at_int (Kd.R_reads' HO134.out).2.2 0 (by decide) (by rw [Ny132.out]; simp)
                          cases fo75
                          refine hK.out _ _ ⟨.slice (some ado75) y132.length co75, ado75, v139, adz_v139, m6_, m11_, (by rw [ha.out]; exact putSel_upk 2 hb_ rfl rfl rfl), (by (with_reducible repeat (first | apply Kd.R_alloc | apply Kd.R_drewN | apply Kd.R_drew)); exact Kd.R_mono HO122.out (fun _ hk => by first | grind | (simp only [true_and, and_assoc] at hk ⊢; grind))), (by (with_reducible repeat (first | apply Kd.R_alloc | apply Kd.R_drewN | apply Kd.R_drew)); exact Kd.R_mono HO125.out (fun _ hk => by first | grind | (simp only [true_and, and_assoc] at hk ⊢; grind))), (by (with_reducible repeat (first | refine blk_drewN ?_ _ | refine blk_drew ?_ | refine blk_alloc ?_ _)); exact BK115.out), z_HI0, (by repeat (first | (with_reducible first | exact HK.out | apply KeepBut.set_ | apply keep_drewN | apply keep_drew | apply keep_alloc | refine keep_far ?_ GW115.out _) | exact HK.out)), (by repeat (first | (with_reducible first | exact HB.out | apply below_alloc | apply pw_below_drewN | apply below_drew1 | refine below_set ?_ GE115.out) | exact HB.out)), z_HI0_e1, fun _ => (by (with_reducible repeat (first | apply Kd.R_alloc | apply Kd.R_drewN | apply Kd.R_drew)); exact Kd.R_mono HO134.out (fun _ hk => by first | grind | (simp only [true_and, and_assoc] at hk ⊢; grind))), fun _ => ⟨_, rfl⟩, z_HI0_e5, fun h0_ => absurd ((hoff 8 (by kernel_rfl)).symm.trans h0_) (by decide), fun h0_ => absurd ((hoff 8 (by kernel_rfl)).symm.trans h0_) (by decide), z_HI0_e10, fun h0_ => absurd ((hoff 6 (by kernel_rfl)).symm.trans h0_) (by decide), fun h0_ => absurd ((hoff 11 (by kernel_rfl)).symm.trans h0_) (by decide)⟩
                        refine steps_cons ?_ ?_
                        · rintro b a w' ⟨v133, adz_v133, v139, adz_v139, m6_, m11_, ha, Q_HO122, Q_HO125, Q_BK115, Q_HI0, Q_HK, Q_HB, Q_HI0_e1, Q_HO134, Q_HA_HO134, Q_HI0_e5, Q_HO140, Q_HA_HO140, Q_HI0_e10, Q_X6_, Q_X11_⟩ hb_ hon hoff
                          refine ⟨_, rfl, fun K hK => ?_⟩
                          have e27 : a.tmps[27]? = some (.pointer (some ⟨g, 0, none⟩)) := by rw [ha]; exact (putSel_off rfl).trans rfl
                          replace ha := Aside0.mk ha
                          have HO122 := Aside0.mk Q_HO122
                          have HO125 := Aside0.mk Q_HO125
                          have BK115 := Aside0.mk Q_BK115
                          have HK := Aside0.mk Q_HK
                          have HB := Aside0.mk Q_HB
                          have HI0 := Aside0.mk (Q_HI0_e1 (hon 1 (by kernel_rfl)) hb_)
                          refine goes_ Try.func30 (by kernel_rfl) rfl #[.pointer (some ⟨g, 0, none⟩), .int .i64 6] (by rfl) rfl rfl (by first | (simp only [List.map_toArray, List.map_cons, List.map_nil, Act.eval, Array.getD_eq_getD_getElem?, Option.getD_some, e27]; done) | (simp only [List.map_toArray, List.map_cons, List.map_nil, Act.eval, Array.getD_eq_getD_getElem?, Option.getD_some, e27]; rfl)) ?_
                          with_reducible refine (spec_l20Rd_pick.calls k g s0_0 t131 6 t135 t136 w0 _ ?side1 ?side2 A11.out).mono ?_
                          (case side1 => repeat (first | (with_reducible first | exact HI0.out | apply IsS50.alloc | apply IsS50.drewN | apply IsS50.drew | apply IsS50.set_1 | refine IsS50.far ?_ NB0_115.out _) | exact HI0.out))
                          (case side2 => repeat (first | (with_reducible first | exact HB.out | apply below_alloc | apply pw_below_drewN | apply below_drew1 | refine below_set ?_ (IsS50.ge HI0.out) | refine below_set ?_ GE115.out) | exact HB.out))
                          rintro e w75 ⟨rfl, hi, hb, hk⟩
                          refine ⟨_, rfl, ?_⟩
                          have n0_ := Aside0.mk (KeepBut.blk hk (g' := gb115) (o := .cells #[.int .i64 0, .int .i64 0] 24 (0, 0)) (by (with_reducible repeat (first | refine blk_drewN ?_ _ | refine blk_drew ?_ | refine blk_alloc ?_ _)); exact BK115.out) NB115_0.out (by simp))
                          have n1_ := Aside0.mk (Kd.R_mono (Kd.R_keep (IsS50.apart (show IsS50 w0 _ g s0_0 t131 from by repeat (first | (with_reducible first | exact HI0.out | apply IsS50.alloc | apply IsS50.drewN | apply IsS50.drew | apply IsS50.set_1 | refine IsS50.far ?_ NB0_115.out _) | exact HI0.out)) (by (with_reducible repeat (first | apply Kd.R_alloc | apply Kd.R_drewN | apply Kd.R_drew)); exact HO122.out) (by decide)) hk (fun _ h => h.2)) (fun _ h => h.1))
                          have n2_ := Aside0.mk (Kd.R_mono (Kd.R_keep (IsS50.apart (show IsS50 w0 _ g s0_0 t131 from by repeat (first | (with_reducible first | exact HI0.out | apply IsS50.alloc | apply IsS50.drewN | apply IsS50.drew | apply IsS50.set_1 | refine IsS50.far ?_ NB0_115.out _) | exact HI0.out)) (by (with_reducible repeat (first | apply Kd.R_alloc | apply Kd.R_drewN | apply Kd.R_drew)); exact HO125.out) (by decide)) hk (fun _ h => h.2)) (fun _ h => h.1))
                          have n3_ := Aside0.mk (KeepBut.trans (by repeat (first | (with_reducible first | exact HK.out | apply KeepBut.set_ | apply keep_drewN | apply keep_drew | apply keep_alloc | refine keep_far ?_ GW115.out _) | exact HK.out)) hk (.inl rfl))
                          have n4_ := Aside0.mk (hb)
                          have n5_ := Aside0.mk (hi)
                          have z_HO134 := fun (h0_ : b 3 = true) => (show Kd.R (Kd.int .i64) 3 w75 w.heap.size (fun k_ => some k_ ≠ (.slice (some ad129) y120.length co71 : Value).ownBlock ∧ some k_ ≠ (.slice (some ad128) y123.length co70 : Value).ownBlock) v133 y132 from by first | exact (Kd.R_mono (Kd.R_keep (IsS50.apart (show IsS50 w0 _ g s0_0 t131 from by repeat (first | (with_reducible first | exact HI0.out | apply IsS50.alloc | apply IsS50.drewN | apply IsS50.drew | apply IsS50.set_1 | refine IsS50.far ?_ NB0_115.out _) | exact HI0.out)) (by (with_reducible repeat (first | apply Kd.R_alloc | apply Kd.R_drewN | apply Kd.R_drew)); exact (Q_HO134 h0_)) (by decide)) hk (fun _ h => h.2)) (fun _ h => h.1)) | exact Kd.R_mono (Kd.R_mono (Kd.R_keep (IsS50.apart (show IsS50 w0 _ g s0_0 t131 from by repeat (first | (with_reducible first | exact HI0.out | apply IsS50.alloc | apply IsS50.drewN | apply IsS50.drew | apply IsS50.set_1 | refine IsS50.far ?_ NB0_115.out _) | exact HI0.out)) (by (with_reducible repeat (first | apply Kd.R_alloc | apply Kd.R_drewN | apply Kd.R_drew)); exact (Q_HO134 h0_)) (by decide)) hk (fun _ h => h.2)) (fun _ h => h.1)) (fun _ h_ => by first | trivial | exact h_ | exact h_.1))
                          clear BK115
                          clear HO122
                          clear HO125
                          clear HK
                          clear HB
                          clear HI0
                          have BK115 := n0_
                          have HO122 := n1_
                          have HO125 := n2_
                          have HK := n3_
                          have HB := n4_
                          have HI0 := n5_
                          clear n0_ n1_ n2_ n3_ n4_ n5_
                          (try clear hb)
                          (try clear hb2)
                          (try clear hk)
                          (try clear hi)
                          refine hK.out _ _ ⟨v133, adz_v133, v139, adz_v139, m6_, m11_, (by rw [ha.out]; exact putSel_upk 3 hb_ rfl rfl rfl), (by (with_reducible repeat (first | apply Kd.R_alloc | apply Kd.R_drewN | apply Kd.R_drew)); exact HO122.out), (by (with_reducible repeat (first | apply Kd.R_alloc | apply Kd.R_drewN | apply Kd.R_drew)); exact HO125.out), (by (with_reducible repeat (first | refine blk_drewN ?_ _ | refine blk_drew ?_ | refine blk_alloc ?_ _)); exact BK115.out), fun h0_ => absurd ((hon 1 (by kernel_rfl)).symm.trans h0_) (by decide), (by repeat (first | (with_reducible first | exact HK.out | apply KeepBut.set_ | apply keep_drewN | apply keep_drew | apply keep_alloc | refine keep_far ?_ GW115.out _) | exact HK.out)), (by repeat (first | (with_reducible first | exact HB.out | apply below_alloc | apply pw_below_drewN | apply below_drew1 | refine below_set ?_ (IsS50.ge HI0.out) | refine below_set ?_ GE115.out) | exact HB.out)), fun _ h1_ => absurd ((up_self b 5).symm.trans h1_) (by decide), z_HO134, Q_HA_HO134, fun _ _ => (by repeat (first | (with_reducible first | exact HI0.out | apply IsS50.alloc | apply IsS50.drewN | apply IsS50.drew | apply IsS50.set_1 | refine IsS50.far ?_ NB0_115.out _) | exact HI0.out)), fun h0_ => absurd ((hoff 8 (by kernel_rfl)).symm.trans h0_) (by decide), fun h0_ => absurd ((hoff 8 (by kernel_rfl)).symm.trans h0_) (by decide), fun h0_ => absurd ((hoff 10 (by kernel_rfl)).symm.trans h0_) (by decide), fun h0_ => absurd ((hoff 6 (by kernel_rfl)).symm.trans h0_) (by decide), fun h0_ => absurd ((hoff 11 (by kernel_rfl)).symm.trans h0_) (by decide)⟩
                        refine steps_cons ?_ ?_
                        · rintro b a w' ⟨v133, adz_v133, v139, adz_v139, m6_, m11_, ha, Q_HO122, Q_HO125, Q_BK115, Q_HI0, Q_HK, Q_HB, Q_HI0_e1, Q_HO134, Q_HA_HO134, Q_HI0_e5, Q_HO140, Q_HA_HO140, Q_HI0_e10, Q_X6_, Q_X11_⟩ hb_ hon hoff
                          refine ⟨_, rfl, fun K hK => ?_⟩
                          have e26 : a.tmps[26]? = some (v133) := by rw [ha]; exact putSel_on (e := (3, 26, v133)) 2 rfl rfl (hon 3 (by kernel_rfl)) rfl
                          have e28 : a.tmps[28]? = some (.int .i64 t135) := by rw [ha]; exact putSel_on (e := (5, 28, .int .i64 t135)) 3 rfl rfl (hon 5 (by kernel_rfl)) rfl
                          replace ha := Aside0.mk ha
                          have HO122 := Aside0.mk Q_HO122
                          have HO125 := Aside0.mk Q_HO125
                          have BK115 := Aside0.mk Q_BK115
                          have HK := Aside0.mk Q_HK
                          have HB := Aside0.mk Q_HB
                          have HO134 := Aside0.mk (Q_HO134 (hon 3 (by kernel_rfl)))
                          have HA_HO134 := Aside0.mk (Q_HA_HO134 (hon 3 (by kernel_rfl)))
                          obtain ⟨c_, hv_⟩ := HA_HO134.out
                          rw [hv_] at e26
                          refine value_ (w1 := w') (v := .pointer (some (adz_v133.add (t135).toNat))) (by rfl) rfl ?_ ?_
                          · go_simp
                            (try simp only [i64_w])
                            try rfl
                          refine hK.out _ _ ⟨v133, adz_v133, v139, adz_v139, (.pointer (some (adz_v133.add (t135).toNat))), m11_, (by rw [ha.out]; exact putSel_upk 4 hb_ rfl rfl rfl), Q_HO122, Q_HO125, Q_BK115, fun h0_ => absurd ((hon 1 (by kernel_rfl)).symm.trans h0_) (by decide), Q_HK, Q_HB, fun _ h1_ => absurd ((hon 5 (by kernel_rfl)).symm.trans h1_) (by decide), Q_HO134, Q_HA_HO134, Q_HI0_e5, fun h0_ => absurd ((hoff 8 (by kernel_rfl)).symm.trans h0_) (by decide), fun h0_ => absurd ((hoff 8 (by kernel_rfl)).symm.trans h0_) (by decide), Q_HI0_e10, fun _ => rfl, fun h0_ => absurd ((hoff 11 (by kernel_rfl)).symm.trans h0_) (by decide)⟩
                        refine steps_cons ?_ ?_
                        · rintro b a w' ⟨v133, adz_v133, v139, adz_v139, m6_, m11_, ha, Q_HO122, Q_HO125, Q_BK115, Q_HI0, Q_HK, Q_HB, Q_HI0_e1, Q_HO134, Q_HA_HO134, Q_HI0_e5, Q_HO140, Q_HA_HO140, Q_HI0_e10, Q_X6_, Q_X11_⟩ hb_ hon hoff
                          refine ⟨_, rfl, fun K hK => ?_⟩
                          have e29 : a.tmps[29]? = some (m6_) := by rw [ha]; exact putSel_on (e := (6, 29, m6_)) 4 rfl rfl (hon 6 (by kernel_rfl)) rfl
                          rw [Q_X6_ (hon 6 (by kernel_rfl))] at e29
                          replace ha := Aside0.mk ha
                          have HO122 := Aside0.mk Q_HO122
                          have HO125 := Aside0.mk Q_HO125
                          have BK115 := Aside0.mk Q_BK115
                          have HK := Aside0.mk Q_HK
                          have HB := Aside0.mk Q_HB
                          have HO134 := Aside0.mk (Q_HO134 (hon 3 (by kernel_rfl)))
                          have HA_HO134 := Aside0.mk (Q_HA_HO134 (hon 3 (by kernel_rfl)))
                          obtain ⟨c_, hv_⟩ := HA_HO134.out
                          have hF_ := HO134.out
                          rw [hv_] at hF_
                          obtain ⟨ad_, ea_, hx_⟩ := Kd.at_int (Kd.R_reads' hF_).2.2 t135 (of_eq_true pi137) (of_eq_true qi137)
                          cases ea_
                          refine value_ (w1 := w') (v := .int .i64 (rd y132 t135)) (by rfl) rfl ?_ ?_
                          · go_simp
                            (try simp only [i64_w])
                            try rfl
                          refine hK.out _ _ ⟨v133, adz_v133, v139, adz_v139, m6_, m11_, (by rw [ha.out]; exact putSel_upk 5 hb_ rfl rfl rfl), Q_HO122, Q_HO125, Q_BK115, fun h0_ => absurd ((hon 1 (by kernel_rfl)).symm.trans h0_) (by decide), Q_HK, Q_HB, fun _ h1_ => absurd ((hon 5 (by kernel_rfl)).symm.trans h1_) (by decide), Q_HO134, Q_HA_HO134, Q_HI0_e5, fun h0_ => absurd ((hoff 8 (by kernel_rfl)).symm.trans h0_) (by decide), fun h0_ => absurd ((hoff 8 (by kernel_rfl)).symm.trans h0_) (by decide), Q_HI0_e10, Q_X6_, fun h0_ => absurd ((hoff 11 (by kernel_rfl)).symm.trans h0_) (by decide)⟩
                        refine steps_cons ?_ ?_
                        · rintro b a w' ⟨v133, adz_v133, v139, adz_v139, m6_, m11_, ha, Q_HO122, Q_HO125, Q_BK115, Q_HI0, Q_HK, Q_HB, Q_HI0_e1, Q_HO134, Q_HA_HO134, Q_HI0_e5, Q_HO140, Q_HA_HO140, Q_HI0_e10, Q_X6_, Q_X11_⟩ hb_ hon hoff
                          refine ⟨_, rfl, fun K hK => ?_⟩
                          have e25 : a.tmps[25]? = some (.int .i64 (wrap64 (1 + t130))) := by rw [ha]; exact putSel_on (e := (2, 25, .int .i64 (wrap64 (1 + t130)))) 1 rfl rfl (hon 2 (by kernel_rfl)) rfl
                          have e30 : a.tmps[30]? = some (.int .i64 (rd y132 t135)) := by rw [ha]; exact putSel_on (e := (7, 30, .int .i64 (rd y132 t135))) 5 rfl rfl (hon 7 (by kernel_rfl)) rfl
                          replace ha := Aside0.mk ha
                          have HO122 := Aside0.mk Q_HO122
                          have HO125 := Aside0.mk Q_HO125
                          have BK115 := Aside0.mk Q_BK115
                          have HK := Aside0.mk Q_HK
                          have HB := Aside0.mk Q_HB
                          have HO134 := Aside0.mk (Q_HO134 (hon 3 (by kernel_rfl)))
                          have HA_HO134 := Aside0.mk (Q_HA_HO134 (hon 3 (by kernel_rfl)))
                          obtain ⟨co79, eo79⟩ := HA_HO134.out
                          clear HA_HO134
                          subst eo79
                          refine Kd.R_lit_step (Kd.int .i64) _ 3 ?hg (N := 31) ?hd (xs := ([1, wrap64 (1 + t130), rd y132 t135, 3] : List Int)) (inner := [.int .i64 1, .int .i64 (wrap64 (1 + t130)), .int .i64 (rd y132 t135), .int .i64 3]) (ok := fun _ => True) (okp := fun _ => True) ?hr ?hp (fun _ hk => hk) trivial (Below.refl _ _) (Nat.le_refl _) (by simp) ?_; (case hd => rfl); (case hg => rfl); (case hr => first | (go_simp; done) | (go_simp; rfl)); (case hp => exact (Reps.one (show Kd.M (Kd.int .i64) _ _ _ 1 [.int .i64 1] from rfl) (Reps.one (show Kd.M (Kd.int .i64) _ _ _ (wrap64 (1 + t130)) [.int .i64 (wrap64 (1 + t130))] from rfl) (Reps.one (show Kd.M (Kd.int .i64) _ _ _ (rd y132 t135) [.int .i64 (rd y132 t135)] from rfl) (Reps.one (show Kd.M (Kd.int .i64) _ _ _ 3 [.int .i64 3] from rfl) (Reps.none _ _))))))
                          intro v139 w80 ho81 hb hg_ hnew_
                          clear hg_ hnew_
                          (first | rw [← Ny138.out] at ho81 | (simp only [Int.reduceToNat] at ho81; rw [← Ny138.out] at ho81))
                          have n0_ := Aside0.mk (Kd.R_elder' (by (with_reducible repeat (first | apply Kd.R_alloc | apply Kd.R_drewN | apply Kd.R_drew)); exact HO122.out) (Kd.R_base ho81) hb)
                          have n1_ := Aside0.mk (Kd.R_elder' (by (with_reducible repeat (first | apply Kd.R_alloc | apply Kd.R_drewN | apply Kd.R_drew)); exact HO125.out) (Kd.R_base ho81) hb)
                          have n2_ := Aside0.mk (Kd.R_elder' (by (with_reducible repeat (first | apply Kd.R_alloc | apply Kd.R_drewN | apply Kd.R_drew)); exact HO134.out) (Kd.R_base ho81) hb)
                          have n3_ := Aside0.mk (Kd.R_lower (Kd.R_new' (Kd.R_new' (Kd.R_new' ho81 (Kd.R_lt (by (with_reducible repeat (first | apply Kd.R_alloc | apply Kd.R_drewN | apply Kd.R_drew)); exact HO122.out))) (Kd.R_lt (by (with_reducible repeat (first | apply Kd.R_alloc | apply Kd.R_drewN | apply Kd.R_drew)); exact HO125.out))) (Kd.R_lt (by (with_reducible repeat (first | apply Kd.R_alloc | apply Kd.R_drewN | apply Kd.R_drew)); exact HO134.out))) (keep_size (w := w) (g := g) (row := none) (by repeat (first | (with_reducible first | exact HK.out | apply KeepBut.set_ | apply keep_drewN | apply keep_drew | apply keep_alloc | refine keep_far ?_ GW115.out _) | exact HK.out))))
                          have n5_ := Aside0.mk (blk_below (g := gb115) (o := .cells #[.int .i64 0, .int .i64 0] 24 (0, 0)) (by (with_reducible repeat (first | refine blk_drewN ?_ _ | refine blk_drew ?_ | refine blk_alloc ?_ _)); exact BK115.out) hb)
                          have n6_ := Aside0.mk (KeepBut.trans (by repeat (first | (with_reducible first | exact HK.out | apply KeepBut.set_ | apply keep_drewN | apply keep_drew | apply keep_alloc | refine keep_far ?_ GW115.out _) | exact HK.out)) (KeepBut.of_below hb g none) (.inl rfl))
                          have n7_ := Aside0.mk (below_step (by repeat (first | (with_reducible first | exact HB.out | apply below_alloc | apply pw_below_drewN | apply below_drew1 | refine below_set ?_ GE115.out) | exact HB.out)) hb)
                          have z_HI0_e5 := fun (h0_ : b 5 = true) (h1_ : b 10 = false) => (show IsS50 w0 w80 g s0_0 t136 from by first | exact (IsS50.below (by repeat (first | (with_reducible first | exact (Q_HI0_e5 h0_ h1_) | apply IsS50.alloc | apply IsS50.drewN | apply IsS50.drew | apply IsS50.set_1 | refine IsS50.far ?_ NB0_115.out _) | exact (Q_HI0_e5 h0_ h1_))) hb))
                          have z_HI0_e10 := fun (h0_ : b 10 = true) => (show IsS50 w0 w80 g s0_0 t142 from by first | exact (IsS50.below (by repeat (first | (with_reducible first | exact (Q_HI0_e10 h0_) | apply IsS50.alloc | apply IsS50.drewN | apply IsS50.drew | apply IsS50.set_1 | refine IsS50.far ?_ NB0_115.out _) | exact (Q_HI0_e10 h0_))) hb))
                          clear HO122
                          clear HO125
                          clear HO134
                          clear BK115
                          clear HK
                          clear HB
                          have HO122 := n0_
                          have HO125 := n1_
                          have HO134 := n2_
                          have HO140 := n3_
                          have BK115 := n5_
                          have HK := n6_
                          have HB := n7_
                          clear n0_ n1_ n2_ n3_ n5_ n6_ n7_
                          clear hb ho81
                          obtain ⟨Ao82, co82, eo82⟩ := Kd.R_slice HO140.out
                          subst eo82
                          obtain ⟨ado82, fo82, _⟩ := Kd.at_int (Kd.R_reads' HO140.out).2.2 0 (by decide) (by rw [Ny138.out]; simp)
                          cases fo82
                          refine hK.out _ _ ⟨.slice (some adz_v133) y132.length co79, adz_v133, .slice (some ado82) y138.length co82, ado82, m6_, m11_, (by rw [ha.out]; exact putSel_upk 6 hb_ rfl rfl rfl), (by (with_reducible repeat (first | apply Kd.R_alloc | apply Kd.R_drewN | apply Kd.R_drew)); exact Kd.R_mono HO122.out (fun _ hk => by first | grind | (simp only [true_and, and_assoc] at hk ⊢; grind))), (by (with_reducible repeat (first | apply Kd.R_alloc | apply Kd.R_drewN | apply Kd.R_drew)); exact Kd.R_mono HO125.out (fun _ hk => by first | grind | (simp only [true_and, and_assoc] at hk ⊢; grind))), (by (with_reducible repeat (first | refine blk_drewN ?_ _ | refine blk_drew ?_ | refine blk_alloc ?_ _)); exact BK115.out), fun h0_ => absurd ((hon 1 (by kernel_rfl)).symm.trans h0_) (by decide), (by repeat (first | (with_reducible first | exact HK.out | apply KeepBut.set_ | apply keep_drewN | apply keep_drew | apply keep_alloc | refine keep_far ?_ GW115.out _) | exact HK.out)), (by repeat (first | (with_reducible first | exact HB.out | apply below_alloc | apply pw_below_drewN | apply below_drew1 | refine below_set ?_ GE115.out) | exact HB.out)), fun _ h1_ => absurd ((hon 5 (by kernel_rfl)).symm.trans h1_) (by decide), fun _ => (by (with_reducible repeat (first | apply Kd.R_alloc | apply Kd.R_drewN | apply Kd.R_drew)); exact Kd.R_mono HO134.out (fun _ hk => by first | grind | (simp only [true_and, and_assoc] at hk ⊢; grind))), fun _ => ⟨_, rfl⟩, z_HI0_e5, fun _ => (by (with_reducible repeat (first | apply Kd.R_alloc | apply Kd.R_drewN | apply Kd.R_drew)); exact Kd.R_mono HO140.out (fun _ hk => by first | grind | (simp only [true_and, and_assoc] at hk ⊢; grind))), fun _ => ⟨_, rfl⟩, z_HI0_e10, Q_X6_, fun h0_ => absurd ((hoff 11 (by kernel_rfl)).symm.trans h0_) (by decide)⟩
                        refine steps_cons ?_ ?_
                        · rintro b a w' ⟨v133, adz_v133, v139, adz_v139, m6_, m11_, ha, Q_HO122, Q_HO125, Q_BK115, Q_HI0, Q_HK, Q_HB, Q_HI0_e1, Q_HO134, Q_HA_HO134, Q_HI0_e5, Q_HO140, Q_HA_HO140, Q_HI0_e10, Q_X6_, Q_X11_⟩ hb_ hon hoff
                          refine ⟨_, rfl, fun K hK => ?_⟩
                          have e32 : a.tmps[32]? = some (.pointer (some ⟨g, 0, none⟩)) := by rw [ha]; exact (putSel_off rfl).trans rfl
                          replace ha := Aside0.mk ha
                          have HO122 := Aside0.mk Q_HO122
                          have HO125 := Aside0.mk Q_HO125
                          have BK115 := Aside0.mk Q_BK115
                          have HK := Aside0.mk Q_HK
                          have HB := Aside0.mk Q_HB
                          have HI0 := Aside0.mk (Q_HI0_e5 (hon 5 (by kernel_rfl)) hb_)
                          refine goes_ Try.func30 (by kernel_rfl) rfl #[.pointer (some ⟨g, 0, none⟩), .int .i64 4] (by rfl) rfl rfl (by first | (simp only [List.map_toArray, List.map_cons, List.map_nil, Act.eval, Array.getD_eq_getD_getElem?, Option.getD_some, e32]; done) | (simp only [List.map_toArray, List.map_cons, List.map_nil, Act.eval, Array.getD_eq_getD_getElem?, Option.getD_some, e32]; rfl)) ?_
                          with_reducible refine (spec_l20Rd_pick.calls k g s0_0 t136 4 t141 t142 w0 _ ?side1 ?side2 A14.out).mono ?_
                          (case side1 => repeat (first | (with_reducible first | exact HI0.out | apply IsS50.alloc | apply IsS50.drewN | apply IsS50.drew | apply IsS50.set_1 | refine IsS50.far ?_ NB0_115.out _) | exact HI0.out))
                          (case side2 => repeat (first | (with_reducible first | exact HB.out | apply below_alloc | apply pw_below_drewN | apply below_drew1 | refine below_set ?_ (IsS50.ge HI0.out) | refine below_set ?_ GE115.out) | exact HB.out))
                          rintro e w76 ⟨rfl, hi, hb, hk⟩
                          refine ⟨_, rfl, ?_⟩
                          have n0_ := Aside0.mk (KeepBut.blk hk (g' := gb115) (o := .cells #[.int .i64 0, .int .i64 0] 24 (0, 0)) (by (with_reducible repeat (first | refine blk_drewN ?_ _ | refine blk_drew ?_ | refine blk_alloc ?_ _)); exact BK115.out) NB115_0.out (by simp))
                          have n1_ := Aside0.mk (Kd.R_mono (Kd.R_keep (IsS50.apart (show IsS50 w0 _ g s0_0 t136 from by repeat (first | (with_reducible first | exact HI0.out | apply IsS50.alloc | apply IsS50.drewN | apply IsS50.drew | apply IsS50.set_1 | refine IsS50.far ?_ NB0_115.out _) | exact HI0.out)) (by (with_reducible repeat (first | apply Kd.R_alloc | apply Kd.R_drewN | apply Kd.R_drew)); exact HO122.out) (by decide)) hk (fun _ h => h.2)) (fun _ h => h.1))
                          have n2_ := Aside0.mk (Kd.R_mono (Kd.R_keep (IsS50.apart (show IsS50 w0 _ g s0_0 t136 from by repeat (first | (with_reducible first | exact HI0.out | apply IsS50.alloc | apply IsS50.drewN | apply IsS50.drew | apply IsS50.set_1 | refine IsS50.far ?_ NB0_115.out _) | exact HI0.out)) (by (with_reducible repeat (first | apply Kd.R_alloc | apply Kd.R_drewN | apply Kd.R_drew)); exact HO125.out) (by decide)) hk (fun _ h => h.2)) (fun _ h => h.1))
                          have n3_ := Aside0.mk (KeepBut.trans (by repeat (first | (with_reducible first | exact HK.out | apply KeepBut.set_ | apply keep_drewN | apply keep_drew | apply keep_alloc | refine keep_far ?_ GW115.out _) | exact HK.out)) hk (.inl rfl))
                          have n4_ := Aside0.mk (hb)
                          have n5_ := Aside0.mk (hi)
                          have z_HO134 := fun (h0_ : b 3 = true) => (show Kd.R (Kd.int .i64) 3 w76 w.heap.size (fun k_ => some k_ ≠ (.slice (some ad129) y120.length co71 : Value).ownBlock ∧ some k_ ≠ (.slice (some ad128) y123.length co70 : Value).ownBlock) v133 y132 from by first | exact (Kd.R_mono (Kd.R_keep (IsS50.apart (show IsS50 w0 _ g s0_0 t136 from by repeat (first | (with_reducible first | exact HI0.out | apply IsS50.alloc | apply IsS50.drewN | apply IsS50.drew | apply IsS50.set_1 | refine IsS50.far ?_ NB0_115.out _) | exact HI0.out)) (by (with_reducible repeat (first | apply Kd.R_alloc | apply Kd.R_drewN | apply Kd.R_drew)); exact (Q_HO134 h0_)) (by decide)) hk (fun _ h => h.2)) (fun _ h => h.1)) | exact Kd.R_mono (Kd.R_mono (Kd.R_keep (IsS50.apart (show IsS50 w0 _ g s0_0 t136 from by repeat (first | (with_reducible first | exact HI0.out | apply IsS50.alloc | apply IsS50.drewN | apply IsS50.drew | apply IsS50.set_1 | refine IsS50.far ?_ NB0_115.out _) | exact HI0.out)) (by (with_reducible repeat (first | apply Kd.R_alloc | apply Kd.R_drewN | apply Kd.R_drew)); exact (Q_HO134 h0_)) (by decide)) hk (fun _ h => h.2)) (fun _ h => h.1)) (fun _ h_ => by first | trivial | exact h_ | exact h_.1))
                          have z_HO140 := fun (h0_ : b 8 = true) => (show Kd.R (Kd.int .i64) 3 w76 w.heap.size (fun k_ => some k_ ≠ (.slice (some ad129) y120.length co71 : Value).ownBlock ∧ some k_ ≠ (.slice (some ad128) y123.length co70 : Value).ownBlock) v139 y138 from by first | exact (Kd.R_mono (Kd.R_keep (IsS50.apart (show IsS50 w0 _ g s0_0 t136 from by repeat (first | (with_reducible first | exact HI0.out | apply IsS50.alloc | apply IsS50.drewN | apply IsS50.drew | apply IsS50.set_1 | refine IsS50.far ?_ NB0_115.out _) | exact HI0.out)) (by (with_reducible repeat (first | apply Kd.R_alloc | apply Kd.R_drewN | apply Kd.R_drew)); exact (Q_HO140 h0_)) (by decide)) hk (fun _ h => h.2)) (fun _ h => h.1)) | exact Kd.R_mono (Kd.R_mono (Kd.R_keep (IsS50.apart (show IsS50 w0 _ g s0_0 t136 from by repeat (first | (with_reducible first | exact HI0.out | apply IsS50.alloc | apply IsS50.drewN | apply IsS50.drew | apply IsS50.set_1 | refine IsS50.far ?_ NB0_115.out _) | exact HI0.out)) (by (with_reducible repeat (first | apply Kd.R_alloc | apply Kd.R_drewN | apply Kd.R_drew)); exact (Q_HO140 h0_)) (by decide)) hk (fun _ h => h.2)) (fun _ h => h.1)) (fun _ h_ => by first | trivial | exact h_ | exact h_.1))
                          clear BK115
                          clear HO122
                          clear HO125
                          clear HK
                          clear HB
                          clear HI0
                          have BK115 := n0_
                          have HO122 := n1_
                          have HO125 := n2_
                          have HK := n3_
                          have HB := n4_
                          have HI0 := n5_
                          clear n0_ n1_ n2_ n3_ n4_ n5_
                          (try clear hb)
                          (try clear hb2)
                          (try clear hk)
                          (try clear hi)
                          refine hK.out _ _ ⟨v133, adz_v133, v139, adz_v139, m6_, m11_, (by rw [ha.out]; exact putSel_upk 7 hb_ rfl rfl rfl), (by (with_reducible repeat (first | apply Kd.R_alloc | apply Kd.R_drewN | apply Kd.R_drew)); exact HO122.out), (by (with_reducible repeat (first | apply Kd.R_alloc | apply Kd.R_drewN | apply Kd.R_drew)); exact HO125.out), (by (with_reducible repeat (first | refine blk_drewN ?_ _ | refine blk_drew ?_ | refine blk_alloc ?_ _)); exact BK115.out), fun h0_ => absurd ((hon 1 (by kernel_rfl)).symm.trans h0_) (by decide), (by repeat (first | (with_reducible first | exact HK.out | apply KeepBut.set_ | apply keep_drewN | apply keep_drew | apply keep_alloc | refine keep_far ?_ GW115.out _) | exact HK.out)), (by repeat (first | (with_reducible first | exact HB.out | apply below_alloc | apply pw_below_drewN | apply below_drew1 | refine below_set ?_ (IsS50.ge HI0.out) | refine below_set ?_ GE115.out) | exact HB.out)), fun _ h1_ => absurd ((hon 5 (by kernel_rfl)).symm.trans h1_) (by decide), z_HO134, Q_HA_HO134, fun _ h1_ => absurd ((up_self b 10).symm.trans h1_) (by decide), z_HO140, Q_HA_HO140, fun _ => (by repeat (first | (with_reducible first | exact HI0.out | apply IsS50.alloc | apply IsS50.drewN | apply IsS50.drew | apply IsS50.set_1 | refine IsS50.far ?_ NB0_115.out _) | exact HI0.out)), Q_X6_, fun h0_ => absurd ((hoff 11 (by kernel_rfl)).symm.trans h0_) (by decide)⟩
                        refine steps_cons ?_ ?_
                        · rintro b a w' ⟨v133, adz_v133, v139, adz_v139, m6_, m11_, ha, Q_HO122, Q_HO125, Q_BK115, Q_HI0, Q_HK, Q_HB, Q_HI0_e1, Q_HO134, Q_HA_HO134, Q_HI0_e5, Q_HO140, Q_HA_HO140, Q_HI0_e10, Q_X6_, Q_X11_⟩ hb_ hon hoff
                          refine ⟨_, rfl, fun K hK => ?_⟩
                          have e31 : a.tmps[31]? = some (v139) := by rw [ha]; exact putSel_on (e := (8, 31, v139)) 6 rfl rfl (hon 8 (by kernel_rfl)) rfl
                          have e33 : a.tmps[33]? = some (.int .i64 t141) := by rw [ha]; exact putSel_on (e := (10, 33, .int .i64 t141)) 7 rfl rfl (hon 10 (by kernel_rfl)) rfl
                          replace ha := Aside0.mk ha
                          have HO122 := Aside0.mk Q_HO122
                          have HO125 := Aside0.mk Q_HO125
                          have BK115 := Aside0.mk Q_BK115
                          have HK := Aside0.mk Q_HK
                          have HB := Aside0.mk Q_HB
                          have HO134 := Aside0.mk (Q_HO134 (hon 3 (by kernel_rfl)))
                          have HA_HO134 := Aside0.mk (Q_HA_HO134 (hon 3 (by kernel_rfl)))
                          have HO140 := Aside0.mk (Q_HO140 (hon 8 (by kernel_rfl)))
                          have HA_HO140 := Aside0.mk (Q_HA_HO140 (hon 8 (by kernel_rfl)))
                          have HI0 := Aside0.mk (Q_HI0_e10 (hon 10 (by kernel_rfl)))
                          obtain ⟨c_, hv_⟩ := HA_HO140.out
                          rw [hv_] at e31
                          refine value_ (w1 := w') (v := .pointer (some (adz_v139.add (t141).toNat))) (by rfl) rfl ?_ ?_
                          · go_simp
                            (try simp only [i64_w])
                            try rfl
                          refine hK.out _ _ ⟨v133, adz_v133, v139, adz_v139, m6_, (.pointer (some (adz_v139.add (t141).toNat))), (by rw [ha.out]; exact putSel_upk 8 hb_ rfl rfl rfl), Q_HO122, Q_HO125, Q_BK115, fun h0_ => absurd ((hon 1 (by kernel_rfl)).symm.trans h0_) (by decide), Q_HK, Q_HB, fun _ h1_ => absurd ((hon 5 (by kernel_rfl)).symm.trans h1_) (by decide), Q_HO134, Q_HA_HO134, fun _ h1_ => absurd ((hon 10 (by kernel_rfl)).symm.trans h1_) (by decide), Q_HO140, Q_HA_HO140, Q_HI0_e10, Q_X6_, fun _ => rfl⟩
                        refine steps_cons ?_ ?_
                        · rintro b a w' ⟨v133, adz_v133, v139, adz_v139, m6_, m11_, ha, Q_HO122, Q_HO125, Q_BK115, Q_HI0, Q_HK, Q_HB, Q_HI0_e1, Q_HO134, Q_HA_HO134, Q_HI0_e5, Q_HO140, Q_HA_HO140, Q_HI0_e10, Q_X6_, Q_X11_⟩ hb_ hon hoff
                          refine ⟨_, rfl, fun K hK => ?_⟩
                          have e34 : a.tmps[34]? = some (m11_) := by rw [ha]; exact putSel_on (e := (11, 34, m11_)) 8 rfl rfl (hon 11 (by kernel_rfl)) rfl
                          rw [Q_X11_ (hon 11 (by kernel_rfl))] at e34
                          replace ha := Aside0.mk ha
                          have HO122 := Aside0.mk Q_HO122
                          have HO125 := Aside0.mk Q_HO125
                          have BK115 := Aside0.mk Q_BK115
                          have HK := Aside0.mk Q_HK
                          have HB := Aside0.mk Q_HB
                          have HO134 := Aside0.mk (Q_HO134 (hon 3 (by kernel_rfl)))
                          have HA_HO134 := Aside0.mk (Q_HA_HO134 (hon 3 (by kernel_rfl)))
                          have HO140 := Aside0.mk (Q_HO140 (hon 8 (by kernel_rfl)))
                          have HA_HO140 := Aside0.mk (Q_HA_HO140 (hon 8 (by kernel_rfl)))
                          have HI0 := Aside0.mk (Q_HI0_e10 (hon 10 (by kernel_rfl)))
                          obtain ⟨c_, hv_⟩ := HA_HO140.out
                          have hF_ := HO140.out
                          rw [hv_] at hF_
                          obtain ⟨ad_, ea_, hx_⟩ := Kd.at_int (Kd.R_reads' hF_).2.2 t141 (of_eq_true pi143) (of_eq_true qi143)
                          cases ea_
                          refine value_ (w1 := w') (v := .int .i64 (rd y138 t141)) (by rfl) rfl ?_ ?_
                          · go_simp
                            (try simp only [i64_w])
                            try rfl
                          refine hK.out _ _ ⟨v133, adz_v133, v139, adz_v139, m6_, m11_, (by rw [ha.out]; exact putSel_upk 9 hb_ rfl rfl rfl), Q_HO122, Q_HO125, Q_BK115, fun h0_ => absurd ((hon 1 (by kernel_rfl)).symm.trans h0_) (by decide), Q_HK, Q_HB, fun _ h1_ => absurd ((hon 5 (by kernel_rfl)).symm.trans h1_) (by decide), Q_HO134, Q_HA_HO134, fun _ h1_ => absurd ((hon 10 (by kernel_rfl)).symm.trans h1_) (by decide), Q_HO140, Q_HA_HO140, Q_HI0_e10, Q_X6_, Q_X11_⟩
                        refine steps_cons ?_ ?_
                        · rintro b a w' ⟨v133, adz_v133, v139, adz_v139, m6_, m11_, ha, Q_HO122, Q_HO125, Q_BK115, Q_HI0, Q_HK, Q_HB, Q_HI0_e1, Q_HO134, Q_HA_HO134, Q_HI0_e5, Q_HO140, Q_HA_HO140, Q_HI0_e10, Q_X6_, Q_X11_⟩ hb_ hon hoff
                          refine ⟨_, rfl, fun K hK => ?_⟩
                          have e35 : a.tmps[35]? = some (.int .i64 (rd y138 t141)) := by rw [ha]; exact putSel_on (e := (12, 35, .int .i64 (rd y138 t141))) 9 rfl rfl (hon 12 (by kernel_rfl)) rfl
                          replace ha := Aside0.mk ha
                          have HO122 := Aside0.mk Q_HO122
                          have HO125 := Aside0.mk Q_HO125
                          have BK115 := Aside0.mk Q_BK115
                          have HK := Aside0.mk Q_HK
                          have HB := Aside0.mk Q_HB
                          have HO134 := Aside0.mk (Q_HO134 (hon 3 (by kernel_rfl)))
                          have HA_HO134 := Aside0.mk (Q_HA_HO134 (hon 3 (by kernel_rfl)))
                          have HO140 := Aside0.mk (Q_HO140 (hon 8 (by kernel_rfl)))
                          have HA_HO140 := Aside0.mk (Q_HA_HO140 (hon 8 (by kernel_rfl)))
                          have HI0 := Aside0.mk (Q_HI0_e10 (hon 10 (by kernel_rfl)))
                          refine value_ (w1 := w') (v := .int .i64 (rd y138 t141)) (by rfl) rfl ?_ ?_
                          · go_simp
                            (try simp only [i64_w])
                            try rfl
                          refine hK.out _ _ ⟨v133, adz_v133, v139, adz_v139, m6_, m11_, (by rw [ha.out]; exact putSel_upk 10 hb_ rfl rfl rfl), Q_HO122, Q_HO125, Q_BK115, fun h0_ => absurd ((hon 1 (by kernel_rfl)).symm.trans h0_) (by decide), Q_HK, Q_HB, fun _ h1_ => absurd ((hon 5 (by kernel_rfl)).symm.trans h1_) (by decide), Q_HO134, Q_HA_HO134, fun _ h1_ => absurd ((hon 10 (by kernel_rfl)).symm.trans h1_) (by decide), Q_HO140, Q_HA_HO140, Q_HI0_e10, Q_X6_, Q_X11_⟩
                        exact steps_nil
                      rintro b a w82 hall ⟨v133, adz_v133, v139, adz_v139, m6_, m11_, ha, Q_HO122, Q_HO125, Q_BK115, Q_HI0, Q_HK, Q_HB, Q_HI0_e1, Q_HO134, Q_HA_HO134, Q_HI0_e5, Q_HO140, Q_HA_HO140, Q_HI0_e10, Q_X6_, Q_X11_⟩
                      clear BK115 HB HI0 HK HO122 HO125
                      have hb1_ := hall 1 (by kernel_rfl)
                      have hb2_ := hall 2 (by kernel_rfl)
                      have hb3_ := hall 3 (by kernel_rfl)
                      have hb5_ := hall 5 (by kernel_rfl)
                      have hb6_ := hall 6 (by kernel_rfl)
                      have hb7_ := hall 7 (by kernel_rfl)
                      have hb8_ := hall 8 (by kernel_rfl)
                      have hb10_ := hall 10 (by kernel_rfl)
                      have hb11_ := hall 11 (by kernel_rfl)
                      have hb12_ := hall 12 (by kernel_rfl)
                      have hb13_ := hall 13 (by kernel_rfl)
                      subst ha
                      obtain rfl := Q_X6_ hb6_
                      obtain rfl := Q_X11_ hb11_
                      simp only [putSel, hb1_, hb2_, hb3_, hb5_, hb6_, hb7_, hb8_, hb10_, hb11_, hb12_, hb13_, if_true, Act.put, List.setIfInBounds_toArray, List.set_cons_zero, List.set_cons_succ]
                      have HO122 := Aside0.mk Q_HO122
                      clear Q_HO122
                      have HO125 := Aside0.mk Q_HO125
                      clear Q_HO125
                      have BK115 := Aside0.mk Q_BK115
                      clear Q_BK115
                      clear Q_HI0
                      have HK := Aside0.mk Q_HK
                      clear Q_HK
                      have HB := Aside0.mk Q_HB
                      clear Q_HB
                      clear Q_HI0_e1
                      have HO134 := Aside0.mk (Q_HO134 hb3_)
                      clear Q_HO134
                      have HA_HO134 := Aside0.mk (Q_HA_HO134 hb3_)
                      clear Q_HA_HO134
                      clear Q_HI0_e5
                      have HO140 := Aside0.mk (Q_HO140 hb8_)
                      clear Q_HO140
                      have HA_HO140 := Aside0.mk (Q_HA_HO140 hb8_)
                      clear Q_HA_HO140
                      have HI0 := Aside0.mk (Q_HI0_e10 hb10_)
                      clear Q_HI0_e10
                      clear hall hb1_ hb2_ hb3_ hb5_ hb6_ hb7_ hb8_ hb10_ hb11_ hb12_ hb13_
                      obtain ⟨co83, eo83⟩ := HA_HO134.out
                      clear HA_HO134
                      subst eo83
                      obtain ⟨co84, eo84⟩ := HA_HO140.out
                      clear HA_HO140
                      subst eo84
                      try go_wp2_with (first | ((with_reducible refine gate_callee (f := 40) rfl ?_); refine goesL_ (some 38) rfl rfl Try.func40 (by kernel_rfl) rfl #[.int .i64 (rd y120 (rd y123 t126)), .int .i64 (rd y138 t141)] rfl (by (try simp only [List.map_toArray, List.map_cons, List.map_nil]); first | done | rfl | (simp only [List.length_drop, List.length_take]; rfl)) ?_; (with_reducible refine (spec_l2Gcd.calls k (rd y120 (rd y123 t126)) (rd y138 t141) t144 _ A17.out).mono ?_); rintro e w85 ⟨rfl, hb⟩; refine ⟨_, rfl, ?_⟩; have n0_ := Aside0.mk (Kd.R_below (by (with_reducible repeat (first | apply Kd.R_alloc | apply Kd.R_drewN | apply Kd.R_drew)); exact HO122.out) hb); have n1_ := Aside0.mk (Kd.R_below (by (with_reducible repeat (first | apply Kd.R_alloc | apply Kd.R_drewN | apply Kd.R_drew)); exact HO125.out) hb); have n2_ := Aside0.mk (Kd.R_below (by (with_reducible repeat (first | apply Kd.R_alloc | apply Kd.R_drewN | apply Kd.R_drew)); exact HO134.out) hb); have n3_ := Aside0.mk (Kd.R_below (by (with_reducible repeat (first | apply Kd.R_alloc | apply Kd.R_drewN | apply Kd.R_drew)); exact HO140.out) hb); have n4_ := Aside0.mk (IsS50.below (by repeat (first | (with_reducible first | exact HI0.out | apply IsS50.alloc | apply IsS50.drewN | apply IsS50.drew | apply IsS50.set_1 | refine IsS50.far ?_ NB0_115.out _) | exact HI0.out)) hb); have n5_ := Aside0.mk (blk_below (g := gb115) (o := .cells #[.int .i64 0, .int .i64 0] 24 (0, 0)) (by (with_reducible repeat (first | refine blk_drewN ?_ _ | refine blk_drew ?_ | refine blk_alloc ?_ _)); exact BK115.out) hb); have n6_ := Aside0.mk (KeepBut.trans (by repeat (first | (with_reducible first | exact HK.out | apply KeepBut.set_ | apply keep_drewN | apply keep_drew | apply keep_alloc | refine keep_far ?_ GW115.out _) | exact HK.out)) (KeepBut.of_below hb g none) (.inl rfl)); have n7_ := Aside0.mk (below_step (by repeat (first | (with_reducible first | exact HB.out | apply below_alloc | apply pw_below_drewN | apply below_drew1 | refine below_set ?_ (IsS50.ge HI0.out) | refine below_set ?_ GE115.out) | exact HB.out)) hb); clear HO122; clear HO125; clear HO134; clear HO140; clear HI0; clear BK115; clear HK; clear HB; have HO122 := n0_; have HO125 := n1_; have HO134 := n2_; have HO140 := n3_; have HI0 := n4_; have BK115 := n5_; have HK := n6_; have HB := n7_; clear n0_ n1_ n2_ n3_ n4_ n5_ n6_ n7_; (try clear hb); (try clear hb2); (try clear hk); (try clear hi)))
                      have n0_ := Aside0.mk (Kd.R_drew HO122.out)
                      have n1_ := Aside0.mk (Kd.R_drew HO125.out)
                      have n2_ := Aside0.mk (Kd.R_drew HO134.out)
                      have n3_ := Aside0.mk (Kd.R_drew HO140.out)
                      have n4_ := Aside0.mk (blk_drew BK115.out)
                      have n5_ := Aside0.mk (IsS50.drew HI0.out)
                      have n6_ := Aside0.mk (keep_drew HK.out)
                      have n7_ := Aside0.mk (below_drew1 HB.out)
                      clear HO122
                      clear HO125
                      clear HO134
                      clear HO140
                      clear BK115
                      clear HI0
                      clear HK
                      clear HB
                      have HO122 := n0_
                      have HO125 := n1_
                      have HO134 := n2_
                      have HO140 := n3_
                      have BK115 := n4_
                      have HI0 := n5_
                      have HK := n6_
                      have HB := n7_
                      clear n0_ n1_ n2_ n3_ n4_ n5_ n6_ n7_
                      refine start_ (n := 9) (S := fun w' => True) (ds := []) #[false, false, false, false, false, false, false, false, false] (by kernel_rfl) rfl rfl trivial (fun hHeld => ?_); refine with_tabW spec_l20Fraction.tab4 spec_l20Fraction.bits4 (fun HT_ HW_ => ?_)
                      generalize w85.drew = w86 at HO122 HO125 HO134 HO140 BK115 HI0 HK HB hHeld ⊢
                      refine pure_ (i := 0) (N := some 39) (v := ?_) (a' := ?_) #[true, false, false, false, false, false, false, false, false] rfl rfl (any_of HT_.out (by kernel_rfl)) (fun _ _ _ h => h) (Or.inl ⟨by rfl, ?_⟩) ?_ ?_
                      rotate_left
                      · intro w'
                        go_simp
                        with_reducible rfl
                      rotate_left
                      · simp only [Act.put, List.setIfInBounds_toArray, List.set_cons_zero, List.set_cons_succ, i64_w, i32_w]
                        rfl
                      refine pure_ (i := 1) (N := some 40) (v := ?_) (a' := ?_) #[true, true, false, false, false, false, false, false, false] rfl rfl (any_of HT_.out (by kernel_rfl)) (fun _ _ _ h => h) (Or.inl ⟨by rfl, ?_⟩) ?_ ?_
                      rotate_left
                      · intro w'
                        go_simp
                        with_reducible rfl
                      rotate_left
                      · simp only [Act.put, List.setIfInBounds_toArray, List.set_cons_zero, List.set_cons_succ, i64_w, i32_w]
                        rfl
                      refine pure_ (i := 2) (N := some 41) (v := ?_) (a' := ?_) #[true, true, true, false, false, false, false, false, false] rfl rfl (any_of HT_.out (by kernel_rfl)) (fun _ _ _ h => h) (Or.inl ⟨by rfl, ?_⟩) ?_ ?_
                      rotate_left
                      · intro w'
                        go_simp
                        with_reducible rfl
                      rotate_left
                      · simp only [Act.put, List.setIfInBounds_toArray, List.set_cons_zero, List.set_cons_succ, i64_w, i32_w]
                        rfl
                      refine pure_ (i := 3) (N := some 42) (v := ?_) (a' := ?_) #[true, true, true, true, false, false, false, false, false] rfl rfl (any_of HT_.out (by kernel_rfl)) (fun _ _ _ h => h) (Or.inl ⟨by rfl, ?_⟩) ?_ ?_
                      rotate_left
                      · intro w'
                        go_simp
                        with_reducible rfl
                      rotate_left
                      · simp only [Act.put, List.setIfInBounds_toArray, List.set_cons_zero, List.set_cons_succ, i64_w, i32_w]
                        rfl
                      refine pure_ (i := 4) (N := some 43) (v := ?_) (a' := ?_) #[true, true, true, true, true, false, false, false, false] rfl rfl (any_of HT_.out (by kernel_rfl)) (fun _ _ _ h => h) (Or.inl ⟨by rfl, ?_⟩) ?_ ?_
                      rotate_left
                      · intro w'
                        go_simp
                        with_reducible rfl
                      rotate_left
                      · simp only [Act.put, List.setIfInBounds_toArray, List.set_cons_zero, List.set_cons_succ, i64_w, i32_w]
                        rfl
                      refine pure_ (i := 5) (N := some 44) (v := ?_) (a' := ?_) #[true, true, true, true, true, true, false, false, false] rfl rfl (any_of HT_.out (by kernel_rfl)) (fun _ _ _ h => h) (Or.inl ⟨by rfl, ?_⟩) ?_ ?_
                      rotate_left
                      · intro w'
                        go_simp
                        with_reducible rfl
                      rotate_left
                      · simp only [Act.put, List.setIfInBounds_toArray, List.set_cons_zero, List.set_cons_succ, i64_w, i32_w]
                        rfl
                      refine pure_ (i := 6) (N := some 45) (v := ?_) (a' := ?_) #[true, true, true, true, true, true, true, false, false] rfl rfl (any_of HT_.out (by kernel_rfl)) (fun _ _ _ h => h) (Or.inl ⟨by rfl, ?_⟩) ?_ ?_
                      rotate_left
                      · intro w'
                        go_simp
                        with_reducible rfl
                      rotate_left
                      · simp only [Act.put, List.setIfInBounds_toArray, List.set_cons_zero, List.set_cons_succ, i64_w, i32_w]
                        rfl
                      refine one_ (i := 7) (N := some 8) #[true, true, true, true, true, true, true, true, false] rfl rfl (one_of HT_.out (by kernel_rfl)) (by decide) (fun K hK => ?_)
                      refine box_step ?hg (N := 8) ?hd (cs := #[.int .i64 0, .int .i64 0]) (t := 24) ?hr ?_; (case hd => rfl); (case hg => rfl); (case hr => first | (go_simp; done) | (go_simp; rfl))
                      intro gb145 hg w87 hbox hb
                      have n0_ := Aside0.mk (Kd.R_below (by (with_reducible repeat (first | apply Kd.R_alloc | apply Kd.R_drewN | apply Kd.R_drew)); exact HO122.out) hb)
                      have n1_ := Aside0.mk (Kd.R_below (by (with_reducible repeat (first | apply Kd.R_alloc | apply Kd.R_drewN | apply Kd.R_drew)); exact HO125.out) hb)
                      have n2_ := Aside0.mk (Kd.R_below (by (with_reducible repeat (first | apply Kd.R_alloc | apply Kd.R_drewN | apply Kd.R_drew)); exact HO134.out) hb)
                      have n3_ := Aside0.mk (Kd.R_below (by (with_reducible repeat (first | apply Kd.R_alloc | apply Kd.R_drewN | apply Kd.R_drew)); exact HO140.out) hb)
                      have n4_ := Aside0.mk (IsS50.below (by repeat (first | (with_reducible first | exact HI0.out | apply IsS50.alloc | apply IsS50.drewN | apply IsS50.drew | apply IsS50.set_1 | refine IsS50.far ?_ NB0_115.out _) | exact HI0.out)) hb)
                      have n5_ := Aside0.mk (blk_below (g := gb115) (o := .cells #[.int .i64 0, .int .i64 0] 24 (0, 0)) (by (with_reducible repeat (first | refine blk_drewN ?_ _ | refine blk_drew ?_ | refine blk_alloc ?_ _)); exact BK115.out) hb)
                      have n6_ := Aside0.mk (KeepBut.trans (by repeat (first | (with_reducible first | exact HK.out | apply KeepBut.set_ | apply keep_drewN | apply keep_drew | apply keep_alloc | refine keep_far ?_ GW115.out _) | exact HK.out)) (KeepBut.of_below hb g none) (.inl rfl))
                      have n7_ := Aside0.mk (below_step (by repeat (first | (with_reducible first | exact HB.out | apply below_alloc | apply pw_below_drewN | apply below_drew1 | refine below_set ?_ (IsS50.ge HI0.out) | refine below_set ?_ GE115.out) | exact HB.out)) hb)
                      have n8_ := Aside0.mk (hbox)
                      have n9_ := Aside0.mk ((by rw [hg]; exact (keep_size (w := w) (g := g) (row := none) (by repeat (first | (with_reducible first | exact HK.out | apply KeepBut.set_ | apply keep_drewN | apply keep_drew | apply keep_alloc | refine keep_far ?_ GW115.out _) | exact HK.out))) : w.heap.size ≤ gb145))
                      have n10_ := Aside0.mk ((Nat.le_trans HW0.out (by rw [hg]; exact (keep_size (w := w) (g := g) (row := none) (by repeat (first | (with_reducible first | exact HK.out | apply KeepBut.set_ | apply keep_drewN | apply keep_drew | apply keep_alloc | refine keep_far ?_ GW115.out _) | exact HK.out))) : w.heap.size ≤ gb145) : w0.heap.size ≤ gb145))
                      have n11_ := Aside0.mk ((by rw [hg]; exact Nat.ne_of_lt (blk_lt (g := gb115) (o := .cells #[.int .i64 0, .int .i64 0] 24 (0, 0)) (by (with_reducible repeat (first | refine blk_drewN ?_ _ | refine blk_drew ?_ | refine blk_alloc ?_ _)); exact BK115.out)) : gb115 ≠ gb145))
                      have n12_ := Aside0.mk ((by rw [hg]; exact Nat.ne_of_gt (blk_lt (g := gb115) (o := .cells #[.int .i64 0, .int .i64 0] 24 (0, 0)) (by (with_reducible repeat (first | refine blk_drewN ?_ _ | refine blk_drew ?_ | refine blk_alloc ?_ _)); exact BK115.out)) : gb145 ≠ gb115))
                      have n13_ := Aside0.mk ((by rw [hg]; exact Nat.ne_of_lt (IsS50.lt (show IsS50 w0 _ g s0_0 t142 from by repeat (first | (with_reducible first | exact HI0.out | apply IsS50.alloc | apply IsS50.drewN | apply IsS50.drew | apply IsS50.set_1 | refine IsS50.far ?_ NB0_115.out _) | exact HI0.out))) : g ≠ gb145))
                      have n14_ := Aside0.mk ((by rw [hg]; exact Nat.ne_of_gt (IsS50.lt (show IsS50 w0 _ g s0_0 t142 from by repeat (first | (with_reducible first | exact HI0.out | apply IsS50.alloc | apply IsS50.drewN | apply IsS50.drew | apply IsS50.set_1 | refine IsS50.far ?_ NB0_115.out _) | exact HI0.out))) : gb145 ≠ g))
                      clear HO122
                      clear HO125
                      clear HO134
                      clear HO140
                      clear HI0
                      clear BK115
                      clear HK
                      clear HB
                      have HO122 := n0_
                      have HO125 := n1_
                      have HO134 := n2_
                      have HO140 := n3_
                      have HI0 := n4_
                      have BK115 := n5_
                      have HK := n6_
                      have HB := n7_
                      have BK145 := n8_
                      have GW145 := n9_
                      have GE145 := n10_
                      have NB115_145 := n11_
                      have NB145_115 := n12_
                      have NB0_145 := n13_
                      have NB145_0 := n14_
                      clear n0_ n1_ n2_ n3_ n4_ n5_ n6_ n7_ n8_ n9_ n10_ n11_ n12_ n13_ n14_
                      clear hb hbox hg
                      refine hK.out _ _ trivial (fun hHeld => ?_)
                      clear hK K
                      refine norm_ (a' := ?_) ?_ ?_
                      rotate_left
                      · show Act.put _ (some 8) _ = _
                        simp only [Act.put, List.setIfInBounds_toArray, List.set_cons_zero, List.set_cons_succ, i64_w, i32_w]
                        rfl
                      refine one_ (i := 8) (N := none) #[true, true, true, true, true, true, true, true, true] rfl rfl (one_of HT_.out (by kernel_rfl)) (by decide) (fun K hK => ?_)
                      have hs88 : w87.cell? ⟨gb145, 0, none⟩ = some (.int .i64 0) := (blk_cell BK145.out 0).trans rfl
                      have hfs88 := blk_frozen BK145.out 0
                      have hns88_0 := NB115_145.out
                      have hms88_0 := NB145_115.out
                      have hs89 : w87.cell? ⟨gb145, 1, none⟩ = some (.int .i64 0) := (blk_cell BK145.out 1).trans rfl
                      have hfs89 := blk_frozen BK145.out 1
                      have hns89_0 := NB115_145.out
                      have hms89_0 := NB145_115.out
                      refine skip_ (w1 := ?_) (by rfl) rfl ?_ ?_
                      rotate_left
                      · go_simp
                        rfl
                      refine hK.out _ _ trivial (fun hHeld => ?_)
                      clear hK K
                      refine done_ (done_of HT_.out (by kernel_rfl)) ?_
                      try go_wp2_with (first | ((with_reducible refine gate_callee (f := 38) rfl ?_); refine goesL_ (some 48) rfl rfl Try.func38 (by kernel_rfl) rfl #[.pointer (some ⟨g, 0, none⟩), .int .i64 a1] rfl (by (try simp only [List.map_toArray, List.map_cons, List.map_nil]); first | done | rfl | (simp only [List.length_drop, List.length_take]; rfl)) ?_; (with_reducible refine (spec_l20Rd_odd.calls k g s0_0 t142 a1 false t147 w0 _ ?side1 ?side2 A19.out).mono ?_); (case side1 => repeat (first | (with_reducible first | exact HI0.out | apply IsS50.alloc | apply IsS50.drewN | apply IsS50.drew | apply IsS50.set_1 | refine IsS50.far ?_ NB0_115.out _ | refine IsS50.far ?_ NB0_145.out _) | exact HI0.out)); (case side2 => repeat (first | (with_reducible first | exact HB.out | apply below_alloc | apply pw_below_drewN | apply below_drew1 | refine below_set ?_ (IsS50.ge HI0.out) | refine below_set ?_ GE115.out | refine below_set ?_ GE145.out) | exact HB.out)); rintro e w90 ⟨rfl, hi, hb, hk⟩; refine ⟨_, rfl, ?_⟩; have n0_ := Aside0.mk (KeepBut.blk hk (g' := gb115) (o := .cells #[.int .i64 0, .int .i64 0] 24 (0, 0)) (by (with_reducible repeat (first | refine blk_drewN ?_ _ | refine blk_drew ?_ | refine blk_alloc ?_ _)); refine blk_far ?_ NB115_145.out _; (with_reducible repeat (first | refine blk_drewN ?_ _ | refine blk_drew ?_ | refine blk_alloc ?_ _)); refine blk_far ?_ NB115_145.out _; (with_reducible repeat (first | refine blk_drewN ?_ _ | refine blk_drew ?_ | refine blk_alloc ?_ _)); exact BK115.out) NB115_0.out (by simp)); have n1_ := Aside0.mk (Kd.R_mono (Kd.R_keep (IsS50.apart (show IsS50 w0 _ g s0_0 t142 from by repeat (first | (with_reducible first | exact HI0.out | apply IsS50.alloc | apply IsS50.drewN | apply IsS50.drew | apply IsS50.set_1 | refine IsS50.far ?_ NB0_115.out _ | refine IsS50.far ?_ NB0_145.out _) | exact HI0.out)) (by (with_reducible repeat (first | apply Kd.R_alloc | apply Kd.R_drewN | apply Kd.R_drew)); exact (Kd.R_mono (Kd.R_far (p := ⟨gb145, 1, none⟩) (Kd.R_far (p := ⟨gb145, 0, none⟩) (Kd.R_types HO122.out BK145.out (by decide)) (fun _ hk => hk.2) (.int .i64 (wrap64 (Int.tdiv (rd y120 (rd y123 t126)) t144)))) (fun _ hk => hk.2) (.int .i64 (wrap64 (Int.tdiv (rd y138 t141) t144)))) (fun _ h_ => h_.1))) (by decide)) hk (fun _ h => h.2)) (fun _ h => h.1)); have n2_ := Aside0.mk (Kd.R_mono (Kd.R_keep (IsS50.apart (show IsS50 w0 _ g s0_0 t142 from by repeat (first | (with_reducible first | exact HI0.out | apply IsS50.alloc | apply IsS50.drewN | apply IsS50.drew | apply IsS50.set_1 | refine IsS50.far ?_ NB0_115.out _ | refine IsS50.far ?_ NB0_145.out _) | exact HI0.out)) (by (with_reducible repeat (first | apply Kd.R_alloc | apply Kd.R_drewN | apply Kd.R_drew)); exact (Kd.R_mono (Kd.R_far (p := ⟨gb145, 1, none⟩) (Kd.R_far (p := ⟨gb145, 0, none⟩) (Kd.R_types HO125.out BK145.out (by decide)) (fun _ hk => hk.2) (.int .i64 (wrap64 (Int.tdiv (rd y120 (rd y123 t126)) t144)))) (fun _ hk => hk.2) (.int .i64 (wrap64 (Int.tdiv (rd y138 t141) t144)))) (fun _ h_ => h_.1))) (by decide)) hk (fun _ h => h.2)) (fun _ h => h.1)); have n3_ := Aside0.mk (Kd.R_mono (Kd.R_keep (IsS50.apart (show IsS50 w0 _ g s0_0 t142 from by repeat (first | (with_reducible first | exact HI0.out | apply IsS50.alloc | apply IsS50.drewN | apply IsS50.drew | apply IsS50.set_1 | refine IsS50.far ?_ NB0_115.out _ | refine IsS50.far ?_ NB0_145.out _) | exact HI0.out)) (by (with_reducible repeat (first | apply Kd.R_alloc | apply Kd.R_drewN | apply Kd.R_drew)); exact (Kd.R_mono (Kd.R_far (p := ⟨gb145, 1, none⟩) (Kd.R_far (p := ⟨gb145, 0, none⟩) (Kd.R_types HO134.out BK145.out (by decide)) (fun _ hk => hk.2) (.int .i64 (wrap64 (Int.tdiv (rd y120 (rd y123 t126)) t144)))) (fun _ hk => hk.2) (.int .i64 (wrap64 (Int.tdiv (rd y138 t141) t144)))) (fun _ h_ => h_.1))) (by decide)) hk (fun _ h => h.2)) (fun _ h => h.1)); have n4_ := Aside0.mk (Kd.R_mono (Kd.R_keep (IsS50.apart (show IsS50 w0 _ g s0_0 t142 from by repeat (first | (with_reducible first | exact HI0.out | apply IsS50.alloc | apply IsS50.drewN | apply IsS50.drew | apply IsS50.set_1 | refine IsS50.far ?_ NB0_115.out _ | refine IsS50.far ?_ NB0_145.out _) | exact HI0.out)) (by (with_reducible repeat (first | apply Kd.R_alloc | apply Kd.R_drewN | apply Kd.R_drew)); exact (Kd.R_mono (Kd.R_far (p := ⟨gb145, 1, none⟩) (Kd.R_far (p := ⟨gb145, 0, none⟩) (Kd.R_types HO140.out BK145.out (by decide)) (fun _ hk => hk.2) (.int .i64 (wrap64 (Int.tdiv (rd y120 (rd y123 t126)) t144)))) (fun _ hk => hk.2) (.int .i64 (wrap64 (Int.tdiv (rd y138 t141) t144)))) (fun _ h_ => h_.1))) (by decide)) hk (fun _ h => h.2)) (fun _ h => h.1)); have n5_ := Aside0.mk (KeepBut.blk hk (g' := gb145) (o := .cells #[.int .i64 (wrap64 (Int.tdiv (rd y120 (rd y123 t126)) t144)), .int .i64 (wrap64 (Int.tdiv (rd y138 t141) t144))] 24 (0, 0)) (by (with_reducible repeat (first | refine blk_drewN ?_ _ | refine blk_drew ?_ | refine blk_alloc ?_ _)); refine blk_put (cs := #[.int .i64 (wrap64 (Int.tdiv (rd y120 (rd y123 t126)) t144)), .int .i64 0]) ?_ 1 _ rfl; (with_reducible repeat (first | refine blk_drewN ?_ _ | refine blk_drew ?_ | refine blk_alloc ?_ _)); refine blk_put (cs := #[.int .i64 0, .int .i64 0]) ?_ 0 _ rfl; (with_reducible repeat (first | refine blk_drewN ?_ _ | refine blk_drew ?_ | refine blk_alloc ?_ _)); exact BK145.out) NB145_0.out (by simp)); have n6_ := Aside0.mk (KeepBut.trans (by repeat (first | (with_reducible first | exact HK.out | apply KeepBut.set_ | apply keep_drewN | apply keep_drew | apply keep_alloc | refine keep_far ?_ GW115.out _ | refine keep_far ?_ GW145.out _) | exact HK.out)) hk (.inl rfl)); have n7_ := Aside0.mk (hb); have n8_ := Aside0.mk (hi); clear BK115; clear HO122; clear HO125; clear HO134; clear HO140; clear BK145; clear HK; clear HB; clear HI0; have BK115 := n0_; have HO122 := n1_; have HO125 := n2_; have HO134 := n3_; have HO140 := n4_; have BK145 := n5_; have HK := n6_; have HB := n7_; have HI0 := n8_; clear n0_ n1_ n2_ n3_ n4_ n5_ n6_ n7_ n8_; (try clear hb); (try clear hb2); (try clear hk); (try clear hi); have hnb91 := NB145_115.out; have hnc91 := NB115_145.out; have hnb92 := NB145_0.out; have hnc92 := NB0_145.out; have hcz93_0 : w90.cell? ⟨gb145, 0, none⟩ = some (.int .i64 (wrap64 (Int.tdiv (rd y120 (rd y123 t126)) t144))) := (blk_cell BK145.out 0).trans rfl; have hcz93_1 : w90.cell? ⟨gb145, 1, none⟩ = some (.int .i64 (wrap64 (Int.tdiv (rd y138 t141) t144))) := (blk_cell BK145.out 1).trans rfl; have hfz93_0 := blk_frozen BK145.out 0; have hfz93_1 := blk_frozen BK145.out 1; have hnb94 := NB115_0.out; have hnc94 := NB0_115.out; have hcz95_0 : w90.cell? ⟨gb115, 0, none⟩ = some (.int .i64 0) := (blk_cell BK115.out 0).trans rfl; have hcz95_1 : w90.cell? ⟨gb115, 1, none⟩ = some (.int .i64 0) := (blk_cell BK115.out 1).trans rfl; have hfz95_0 := blk_frozen BK115.out 0; have hfz95_1 := blk_frozen BK115.out 1))
                      refine bodyPost_ret (results_cell_row rfl _ _ gb115 24 #[.int .i64 (wrap64 (Int.tdiv (rd y120 (rd y123 t126)) t144)), .int .i64 (wrap64 (Int.tdiv (rd y138 t141) t144))] (0, 0) _ rfl (by (with_reducible repeat (first | refine blk_drewN ?_ _ | refine blk_drew ?_ | refine blk_alloc ?_ _)); refine blk_put (cs := #[.int .i64 (wrap64 (Int.tdiv (rd y120 (rd y123 t126)) t144)), .int .i64 0]) ?_ 1 _ rfl; (with_reducible repeat (first | refine blk_drewN ?_ _ | refine blk_drew ?_ | refine blk_alloc ?_ _)); refine blk_put (cs := #[.int .i64 0, .int .i64 0]) ?_ 0 _ rfl; (with_reducible repeat (first | refine blk_drewN ?_ _ | refine blk_drew ?_ | refine blk_alloc ?_ _)); exact BK115.out) Try.underlying24 rfl (by kernel_rfl)) rfl ?_
                      exact ⟨by first | rfl | (simp [errW_none, errW_some] <;> rfl) | (simp [*, errW_none, errW_some] <;> rfl), by repeat (first | (with_reducible first | exact HI0.out | apply IsS50.alloc | apply IsS50.drewN | apply IsS50.drew | apply IsS50.set_1 | refine IsS50.far ?_ NB0_115.out _ | refine IsS50.far ?_ NB0_145.out _) | exact HI0.out), by repeat (first | (with_reducible first | exact HB.out | apply below_alloc | apply pw_below_drewN | apply below_drew1 | refine below_set ?_ (IsS50.ge HI0.out) | refine below_set ?_ GE115.out | refine below_set ?_ GE145.out) | exact HB.out), by repeat (first | (with_reducible first | exact HK.out | apply KeepBut.set_ | apply keep_drewN | apply keep_drew | apply keep_alloc | refine keep_far ?_ GW115.out _ | refine keep_far ?_ GW145.out _) | exact HK.out)⟩
                · rw [if_neg c16] at H
                  exact absurd H (by simp)
              · rw [if_neg c15] at H
                exact absurd H (by simp)
            · rw [if_neg c13] at H
              exact absurd H (by simp)
          · rw [if_neg c12] at H
            exact absurd H (by simp)
        · rw [if_neg c9] at H
          exact absurd H (by simp)
      · rw [if_neg c8] at H
        exact absurd H (by simp)
    · rw [if_neg c7] at H
      exact absurd H (by simp)
  · rw [if_neg c6] at H
    exact absurd H (by simp)

end Go.Proofs.Ytahjhpkaicpioaa.PFnMulFractions
