-- Written for this session by its program hprint.py over the kit's print: functions, and contracts that the walk of the Go code proves.
import Derived.Test.YtahjhpkaicpioaaPFnFractionOrderx0
import Derived.Test.YtahjhpkaicpioaaPFnFractionOrderx1
namespace Go.Proofs.Ytahjhpkaicpioaa.PFnFractionOrder
open Go.RowKit Go.Proofs.YtahjhpkaicpioaaW.PrintWords Go.Proofs.YtahjhpkaicpioaaW.PrintLast Go.Proofs.YtahjhpkaicpioaaW.PrintMore
attribute [local go_sem] max2_int min2_int max_two min_two max_three min_three max_four min_four   -- for this text's walks alone
set_option linter.unusedVariables false
set_option linter.unusedSimpArgs false

/-! ### spec_l20Fraction: function 29 -/
def spec_l20Fraction.f (k : Nat) (s0_0 : List Int) (s0_1 : Int) (a1 : Int) : Option (Int × Int × Int) := (spec_l20Rd_pick.f k s0_0 s0_1 24).bind fun bt110 => ((spec_l20Rd_pick.f k s0_0 bt110.2 256).bind fun bt112 => ((some (([wrap64 (bt110.1 - 12), wrap64 (bt112.1 * 999), 1000000000, (-1000000000)] : List Int) : List Int)).bind fun y114 => ((some (([0, 0, 0, 1, 2, 3] : List Int) : List Int)).bind fun y117 => ((spec_l20Rd_pick.f k s0_0 bt112.2 6).bind fun bt120 => (if 0 ≤ bt120.1 then (if bt120.1 < (y117.length : Int) then (if 0 ≤ (rd y117 bt120.1) then (if (rd y117 bt120.1) < (y114.length : Int) then ((spec_l20Rd_pick.f k s0_0 bt120.2 9).bind fun bt124 => ((some (([2, 4, 10, 100, 1000, 1000000] : List Int) : List Int)).bind fun y126 => ((spec_l20Rd_pick.f k s0_0 bt124.2 6).bind fun bt129 => (if 0 ≤ bt129.1 then (if bt129.1 < (y126.length : Int) then ((some (([1, wrap64 (1 + bt124.1), rd y126 bt129.1, 3] : List Int) : List Int)).bind fun y132 => ((spec_l20Rd_pick.f k s0_0 bt129.2 4).bind fun bt135 => (if 0 ≤ bt135.1 then (if bt135.1 < (y132.length : Int) then ((spec_l2Gcd.f k (rd y114 (rd y117 bt120.1)) (rd y132 bt135.1)).bind fun t138 => (if t138 = 0 then (none) else ((spec_l20Rd_odd.f k s0_0 bt135.2 a1).bind fun bt140 => (if bt140.1 = true then ((some (([(⟨2, 4⟩ : S24), (⟨1, 0⟩ : S24), (⟨1000000001, 1⟩ : S24), (⟨1, 1000001⟩ : S24), (⟨1, (-1)⟩ : S24), (⟨0, 0⟩ : S24)] : List (S24)) : List (S24))).bind fun y142 => ((spec_l20Rd_pick.f k s0_0 bt140.2 6).bind fun bt145 => (if 0 ≤ bt145.1 then (if bt145.1 < (y142.length : Int) then (some ((rd_T24 y142 bt145.1).f0, (rd_T24 y142 bt145.1).f1, bt145.2)) else (none)) else (none)))) else (some (wrap64 (Int.tdiv (rd y114 (rd y117 bt120.1)) t138), wrap64 (Int.tdiv (rd y132 bt135.1) t138), bt140.2)))))) else (none)) else (none)))) else (none)) else (none))))) else (none)) else (none)) else (none)) else (none))))))
theorem spec_l20Fraction.mono : ∀ a0 a1 a2 k, LeO (spec_l20Fraction.f k a0 a1 a2) (spec_l20Fraction.f (k + 1) a0 a1 a2) := by
  intro a0 a1 a2 k
  unfold spec_l20Fraction.f
  repeat' first
      | (with_reducible exact spec_l20Rd_odd.mono _ _ _ _)
      | (with_reducible exact spec_l20Rd_pick.mono _ _ _ _)
      | (with_reducible exact spec_l2Gcd.mono _ _ _)
      | (with_reducible exact LeO.refl _)
      | (with_reducible exact LeO.none _)
      | (with_reducible refine LeO.ite ?_ ?_)
      | (with_reducible refine LeO.bind ?_ (fun _ => ?_))
      | exact spec_l20Rd_odd.mono _ _ _ _
      | exact spec_l20Rd_pick.mono _ _ _ _
      | exact spec_l2Gcd.mono _ _ _
      | exact LeO.none _
      | refine LeO.ite ?_ ?_
      | refine LeO.bind ?_ (fun _ => ?_)
def spec_l20Fraction.T2 : Bool × List (List Nat × List Nat) := (true, [([], []), ([0], [0]), ([1], [1]), ([], []), ([], []), ([4, 1], [4]), ([3, 5], [3, 5]), ([6], [6]), ([2, 7], [2, 7]), ([], []), ([9, 5], [9]), ([8, 10], [8, 10]), ([11], [11]), ([12, 10, 0, 1, 2, 3, 4, 5, 6, 7, 8, 9, 10, 11, 12], [12])])
def spec_l20Fraction.B2 : List Nat := [0, 1, 3, 0, 0, 19, 59, 123, 255, 0, 563, 2047, 4095, 8191]
theorem spec_l20Fraction.tab2 : rtab .any (opsOf Try.f29 2) = spec_l20Fraction.T2 := by kernel_rfl
theorem spec_l20Fraction.bits2 : waitsOk spec_l20Fraction.T2.2 spec_l20Fraction.B2 = true := by kernel_rfl
def spec_l20Fraction.T4 : Bool × List (List Nat × List Nat) := (true, [([], []), ([], []), ([0, 1], [0, 1]), ([], []), ([], []), ([3, 4], [3, 4]), ([2, 5], [2, 5]), ([], []), ([7, 6, 0, 1, 2, 3, 4, 5, 6, 7], [6, 7])])
def spec_l20Fraction.B4 : List Nat := [0, 0, 3, 0, 0, 24, 63, 0, 255]
theorem spec_l20Fraction.tab4 : rtab .any (opsOf Try.f29 4) = spec_l20Fraction.T4 := by kernel_rfl
theorem spec_l20Fraction.bits4 : waitsOk spec_l20Fraction.T4.2 spec_l20Fraction.B4 = true := by kernel_rfl
set_option maxHeartbeats 8000000 in
set_option maxRecDepth 100000 in
theorem spec_l20Fraction.calls (k : Nat) (g : Nat) (s0_0 : List Int) (s0_1 : Int) (a1 : Int) (r1 : Int) (r2 : Int) (r3 : Int) (w0 w : World) (hI : IsS50 w0 w g s0_0 s0_1) (hB : Below w0.heap.size w0 w) (h : spec_l20Fraction.f k s0_0 s0_1 a1 = some (r1, r2, r3)) :
    Calls Try.prog 29 #[.pointer (some ⟨g, 0, none⟩), .int .i64 a1] w fun e w' => e = .returned (.agg #[.int .i64 r1, .int .i64 r2]) ∧ IsS50 w0 w' g s0_0 r3 ∧ Below w0.heap.size w0 w' ∧ KeepBut w w' g none := by
  have hu24 := Try.underlying24
  have HI0 := Aside0.mk hI
  have HK := Aside0.mk (KeepBut.refl w g none)
  have HL := Aside0.mk hB.size
  clear hI
  have HW0 := Aside0.mk hB.size
  have HB := Aside0.mk hB
  clear hB
  have H : ((spec_l20Rd_pick.f k s0_0 s0_1 24).bind fun bt110 => ((spec_l20Rd_pick.f k s0_0 bt110.2 256).bind fun bt112 => ((some (([wrap64 (bt110.1 - 12), wrap64 (bt112.1 * 999), 1000000000, (-1000000000)] : List Int) : List Int)).bind fun y114 => ((some (([0, 0, 0, 1, 2, 3] : List Int) : List Int)).bind fun y117 => ((spec_l20Rd_pick.f k s0_0 bt112.2 6).bind fun bt120 => (if 0 ≤ bt120.1 then (if bt120.1 < (y117.length : Int) then (if 0 ≤ (rd y117 bt120.1) then (if (rd y117 bt120.1) < (y114.length : Int) then ((spec_l20Rd_pick.f k s0_0 bt120.2 9).bind fun bt124 => ((some (([2, 4, 10, 100, 1000, 1000000] : List Int) : List Int)).bind fun y126 => ((spec_l20Rd_pick.f k s0_0 bt124.2 6).bind fun bt129 => (if 0 ≤ bt129.1 then (if bt129.1 < (y126.length : Int) then ((some (([1, wrap64 (1 + bt124.1), rd y126 bt129.1, 3] : List Int) : List Int)).bind fun y132 => ((spec_l20Rd_pick.f k s0_0 bt129.2 4).bind fun bt135 => (if 0 ≤ bt135.1 then (if bt135.1 < (y132.length : Int) then ((spec_l2Gcd.f k (rd y114 (rd y117 bt120.1)) (rd y132 bt135.1)).bind fun t138 => (if t138 = 0 then (none) else ((spec_l20Rd_odd.f k s0_0 bt135.2 a1).bind fun bt140 => (if bt140.1 = true then ((some (([(⟨2, 4⟩ : S24), (⟨1, 0⟩ : S24), (⟨1000000001, 1⟩ : S24), (⟨1, 1000001⟩ : S24), (⟨1, (-1)⟩ : S24), (⟨0, 0⟩ : S24)] : List (S24)) : List (S24))).bind fun y142 => ((spec_l20Rd_pick.f k s0_0 bt140.2 6).bind fun bt145 => (if 0 ≤ bt145.1 then (if bt145.1 < (y142.length : Int) then (some ((rd_T24 y142 bt145.1).f0, (rd_T24 y142 bt145.1).f1, bt145.2)) else (none)) else (none)))) else (some (wrap64 (Int.tdiv (rd y114 (rd y117 bt120.1)) t138), wrap64 (Int.tdiv (rd y132 bt135.1) t138), bt140.2)))))) else (none)) else (none)))) else (none)) else (none))))) else (none)) else (none)) else (none)) else (none))))))) = some (r1, r2, r3) := h
  clear h
  replace H := Option.bind_eq_some_iff.mp H
  obtain ⟨⟨t110, t111⟩, A30, H⟩ := H
  replace H : ((spec_l20Rd_pick.f k s0_0 t111 256).bind fun bt112 => ((some (([wrap64 (t110 - 12), wrap64 (bt112.1 * 999), 1000000000, (-1000000000)] : List Int) : List Int)).bind fun y114 => ((some (([0, 0, 0, 1, 2, 3] : List Int) : List Int)).bind fun y117 => ((spec_l20Rd_pick.f k s0_0 bt112.2 6).bind fun bt120 => (if 0 ≤ bt120.1 then (if bt120.1 < (y117.length : Int) then (if 0 ≤ (rd y117 bt120.1) then (if (rd y117 bt120.1) < (y114.length : Int) then ((spec_l20Rd_pick.f k s0_0 bt120.2 9).bind fun bt124 => ((some (([2, 4, 10, 100, 1000, 1000000] : List Int) : List Int)).bind fun y126 => ((spec_l20Rd_pick.f k s0_0 bt124.2 6).bind fun bt129 => (if 0 ≤ bt129.1 then (if bt129.1 < (y126.length : Int) then ((some (([1, wrap64 (1 + bt124.1), rd y126 bt129.1, 3] : List Int) : List Int)).bind fun y132 => ((spec_l20Rd_pick.f k s0_0 bt129.2 4).bind fun bt135 => (if 0 ≤ bt135.1 then (if bt135.1 < (y132.length : Int) then ((spec_l2Gcd.f k (rd y114 (rd y117 bt120.1)) (rd y132 bt135.1)).bind fun t138 => (if t138 = 0 then (none) else ((spec_l20Rd_odd.f k s0_0 bt135.2 a1).bind fun bt140 => (if bt140.1 = true then ((some (([(⟨2, 4⟩ : S24), (⟨1, 0⟩ : S24), (⟨1000000001, 1⟩ : S24), (⟨1, 1000001⟩ : S24), (⟨1, (-1)⟩ : S24), (⟨0, 0⟩ : S24)] : List (S24)) : List (S24))).bind fun y142 => ((spec_l20Rd_pick.f k s0_0 bt140.2 6).bind fun bt145 => (if 0 ≤ bt145.1 then (if bt145.1 < (y142.length : Int) then (some ((rd_T24 y142 bt145.1).f0, (rd_T24 y142 bt145.1).f1, bt145.2)) else (none)) else (none)))) else (some (wrap64 (Int.tdiv (rd y114 (rd y117 bt120.1)) t138), wrap64 (Int.tdiv (rd y132 bt135.1) t138), bt140.2)))))) else (none)) else (none)))) else (none)) else (none))))) else (none)) else (none)) else (none)) else (none)))))) = some (r1, r2, r3) := H
  have A3 := Aside0.mk A30
  clear A30
  replace H := Option.bind_eq_some_iff.mp H
  obtain ⟨⟨t112, t113⟩, A40, H⟩ := H
  replace H : ((some (([wrap64 (t110 - 12), wrap64 (t112 * 999), 1000000000, (-1000000000)] : List Int) : List Int)).bind fun y114 => ((some (([0, 0, 0, 1, 2, 3] : List Int) : List Int)).bind fun y117 => ((spec_l20Rd_pick.f k s0_0 t113 6).bind fun bt120 => (if 0 ≤ bt120.1 then (if bt120.1 < (y117.length : Int) then (if 0 ≤ (rd y117 bt120.1) then (if (rd y117 bt120.1) < (y114.length : Int) then ((spec_l20Rd_pick.f k s0_0 bt120.2 9).bind fun bt124 => ((some (([2, 4, 10, 100, 1000, 1000000] : List Int) : List Int)).bind fun y126 => ((spec_l20Rd_pick.f k s0_0 bt124.2 6).bind fun bt129 => (if 0 ≤ bt129.1 then (if bt129.1 < (y126.length : Int) then ((some (([1, wrap64 (1 + bt124.1), rd y126 bt129.1, 3] : List Int) : List Int)).bind fun y132 => ((spec_l20Rd_pick.f k s0_0 bt129.2 4).bind fun bt135 => (if 0 ≤ bt135.1 then (if bt135.1 < (y132.length : Int) then ((spec_l2Gcd.f k (rd y114 (rd y117 bt120.1)) (rd y132 bt135.1)).bind fun t138 => (if t138 = 0 then (none) else ((spec_l20Rd_odd.f k s0_0 bt135.2 a1).bind fun bt140 => (if bt140.1 = true then ((some (([(⟨2, 4⟩ : S24), (⟨1, 0⟩ : S24), (⟨1000000001, 1⟩ : S24), (⟨1, 1000001⟩ : S24), (⟨1, (-1)⟩ : S24), (⟨0, 0⟩ : S24)] : List (S24)) : List (S24))).bind fun y142 => ((spec_l20Rd_pick.f k s0_0 bt140.2 6).bind fun bt145 => (if 0 ≤ bt145.1 then (if bt145.1 < (y142.length : Int) then (some ((rd_T24 y142 bt145.1).f0, (rd_T24 y142 bt145.1).f1, bt145.2)) else (none)) else (none)))) else (some (wrap64 (Int.tdiv (rd y114 (rd y117 bt120.1)) t138), wrap64 (Int.tdiv (rd y132 bt135.1) t138), bt140.2)))))) else (none)) else (none)))) else (none)) else (none))))) else (none)) else (none)) else (none)) else (none))))) = some (r1, r2, r3) := H
  have A4 := Aside0.mk A40
  clear A40
  obtain ⟨y114, hy114⟩ : ∃ y_ : List Int, y_ = (([wrap64 (t110 - 12), wrap64 (t112 * 999), 1000000000, (-1000000000)] : List Int)) := ⟨_, rfl⟩
  replace H : ((some (([0, 0, 0, 1, 2, 3] : List Int) : List Int)).bind fun y117 => ((spec_l20Rd_pick.f k s0_0 t113 6).bind fun bt120 => (if 0 ≤ bt120.1 then (if bt120.1 < (y117.length : Int) then (if 0 ≤ (rd y117 bt120.1) then (if (rd y117 bt120.1) < (y114.length : Int) then ((spec_l20Rd_pick.f k s0_0 bt120.2 9).bind fun bt124 => ((some (([2, 4, 10, 100, 1000, 1000000] : List Int) : List Int)).bind fun y126 => ((spec_l20Rd_pick.f k s0_0 bt124.2 6).bind fun bt129 => (if 0 ≤ bt129.1 then (if bt129.1 < (y126.length : Int) then ((some (([1, wrap64 (1 + bt124.1), rd y126 bt129.1, 3] : List Int) : List Int)).bind fun y132 => ((spec_l20Rd_pick.f k s0_0 bt129.2 4).bind fun bt135 => (if 0 ≤ bt135.1 then (if bt135.1 < (y132.length : Int) then ((spec_l2Gcd.f k (rd y114 (rd y117 bt120.1)) (rd y132 bt135.1)).bind fun t138 => (if t138 = 0 then (none) else ((spec_l20Rd_odd.f k s0_0 bt135.2 a1).bind fun bt140 => (if bt140.1 = true then ((some (([(⟨2, 4⟩ : S24), (⟨1, 0⟩ : S24), (⟨1000000001, 1⟩ : S24), (⟨1, 1000001⟩ : S24), (⟨1, (-1)⟩ : S24), (⟨0, 0⟩ : S24)] : List (S24)) : List (S24))).bind fun y142 => ((spec_l20Rd_pick.f k s0_0 bt140.2 6).bind fun bt145 => (if 0 ≤ bt145.1 then (if bt145.1 < (y142.length : Int) then (some ((rd_T24 y142 bt145.1).f0, (rd_T24 y142 bt145.1).f1, bt145.2)) else (none)) else (none)))) else (some (wrap64 (Int.tdiv (rd y114 (rd y117 bt120.1)) t138), wrap64 (Int.tdiv (rd y132 bt135.1) t138), bt140.2)))))) else (none)) else (none)))) else (none)) else (none))))) else (none)) else (none)) else (none)) else (none)))) = some (r1, r2, r3) := by first | (rw [hy114]; with_reducible exact H) | (have H2_ := (Option.bind_some _ _).symm.trans H; rw [hy114]; with_reducible exact H2_) | (have H2_ := (Option.bind_some _ _).symm.trans H; with_reducible exact H2_) | with_reducible exact H | (rw [hy114]; exact H) | exact H
  have Ny114 := Aside0.mk hy114
  clear hy114
  obtain ⟨y117, hy117⟩ : ∃ y_ : List Int, y_ = (([0, 0, 0, 1, 2, 3] : List Int)) := ⟨_, rfl⟩
  replace H : ((spec_l20Rd_pick.f k s0_0 t113 6).bind fun bt120 => (if 0 ≤ bt120.1 then (if bt120.1 < (y117.length : Int) then (if 0 ≤ (rd y117 bt120.1) then (if (rd y117 bt120.1) < (y114.length : Int) then ((spec_l20Rd_pick.f k s0_0 bt120.2 9).bind fun bt124 => ((some (([2, 4, 10, 100, 1000, 1000000] : List Int) : List Int)).bind fun y126 => ((spec_l20Rd_pick.f k s0_0 bt124.2 6).bind fun bt129 => (if 0 ≤ bt129.1 then (if bt129.1 < (y126.length : Int) then ((some (([1, wrap64 (1 + bt124.1), rd y126 bt129.1, 3] : List Int) : List Int)).bind fun y132 => ((spec_l20Rd_pick.f k s0_0 bt129.2 4).bind fun bt135 => (if 0 ≤ bt135.1 then (if bt135.1 < (y132.length : Int) then ((spec_l2Gcd.f k (rd y114 (rd y117 bt120.1)) (rd y132 bt135.1)).bind fun t138 => (if t138 = 0 then (none) else ((spec_l20Rd_odd.f k s0_0 bt135.2 a1).bind fun bt140 => (if bt140.1 = true then ((some (([(⟨2, 4⟩ : S24), (⟨1, 0⟩ : S24), (⟨1000000001, 1⟩ : S24), (⟨1, 1000001⟩ : S24), (⟨1, (-1)⟩ : S24), (⟨0, 0⟩ : S24)] : List (S24)) : List (S24))).bind fun y142 => ((spec_l20Rd_pick.f k s0_0 bt140.2 6).bind fun bt145 => (if 0 ≤ bt145.1 then (if bt145.1 < (y142.length : Int) then (some ((rd_T24 y142 bt145.1).f0, (rd_T24 y142 bt145.1).f1, bt145.2)) else (none)) else (none)))) else (some (wrap64 (Int.tdiv (rd y114 (rd y117 bt120.1)) t138), wrap64 (Int.tdiv (rd y132 bt135.1) t138), bt140.2)))))) else (none)) else (none)))) else (none)) else (none))))) else (none)) else (none)) else (none)) else (none))) = some (r1, r2, r3) := by first | (rw [hy117]; with_reducible exact H) | (have H2_ := (Option.bind_some _ _).symm.trans H; rw [hy117]; with_reducible exact H2_) | (have H2_ := (Option.bind_some _ _).symm.trans H; with_reducible exact H2_) | with_reducible exact H | (rw [hy117]; exact H) | exact H
  have Ny117 := Aside0.mk hy117
  clear hy117
  replace H := Option.bind_eq_some_iff.mp H
  obtain ⟨⟨t120, t121⟩, A50, H⟩ := H
  replace H : (if 0 ≤ t120 then (if t120 < (y117.length : Int) then (if 0 ≤ (rd y117 t120) then (if (rd y117 t120) < (y114.length : Int) then ((spec_l20Rd_pick.f k s0_0 t121 9).bind fun bt124 => ((some (([2, 4, 10, 100, 1000, 1000000] : List Int) : List Int)).bind fun y126 => ((spec_l20Rd_pick.f k s0_0 bt124.2 6).bind fun bt129 => (if 0 ≤ bt129.1 then (if bt129.1 < (y126.length : Int) then ((some (([1, wrap64 (1 + bt124.1), rd y126 bt129.1, 3] : List Int) : List Int)).bind fun y132 => ((spec_l20Rd_pick.f k s0_0 bt129.2 4).bind fun bt135 => (if 0 ≤ bt135.1 then (if bt135.1 < (y132.length : Int) then ((spec_l2Gcd.f k (rd y114 (rd y117 t120)) (rd y132 bt135.1)).bind fun t138 => (if t138 = 0 then (none) else ((spec_l20Rd_odd.f k s0_0 bt135.2 a1).bind fun bt140 => (if bt140.1 = true then ((some (([(⟨2, 4⟩ : S24), (⟨1, 0⟩ : S24), (⟨1000000001, 1⟩ : S24), (⟨1, 1000001⟩ : S24), (⟨1, (-1)⟩ : S24), (⟨0, 0⟩ : S24)] : List (S24)) : List (S24))).bind fun y142 => ((spec_l20Rd_pick.f k s0_0 bt140.2 6).bind fun bt145 => (if 0 ≤ bt145.1 then (if bt145.1 < (y142.length : Int) then (some ((rd_T24 y142 bt145.1).f0, (rd_T24 y142 bt145.1).f1, bt145.2)) else (none)) else (none)))) else (some (wrap64 (Int.tdiv (rd y114 (rd y117 t120)) t138), wrap64 (Int.tdiv (rd y132 bt135.1) t138), bt140.2)))))) else (none)) else (none)))) else (none)) else (none))))) else (none)) else (none)) else (none)) else (none)) = some (r1, r2, r3) := H
  have A5 := Aside0.mk A50
  clear A50
  by_cases c6 : 0 ≤ t120
  · rw [if_pos c6] at H
    have c6b0 : decide (0 ≤ t120) = true := decide_eq_true c6
    clear c6
    by_cases c7 : t120 < (y117.length : Int)
    · rw [if_pos c7] at H
      have c7b0 : decide (t120 < (y117.length : Int)) = true := decide_eq_true c7
      clear c7
      by_cases c8 : 0 ≤ (rd y117 t120)
      · rw [if_pos c8] at H
        have c8b0 : decide (0 ≤ (rd y117 t120)) = true := decide_eq_true c8
        clear c8
        by_cases c9 : (rd y117 t120) < (y114.length : Int)
        · rw [if_pos c9] at H
          have c9b0 : decide ((rd y117 t120) < (y114.length : Int)) = true := decide_eq_true c9
          clear c9
          replace H := Option.bind_eq_some_iff.mp H
          obtain ⟨⟨t124, t125⟩, A100, H⟩ := H
          replace H : ((some (([2, 4, 10, 100, 1000, 1000000] : List Int) : List Int)).bind fun y126 => ((spec_l20Rd_pick.f k s0_0 t125 6).bind fun bt129 => (if 0 ≤ bt129.1 then (if bt129.1 < (y126.length : Int) then ((some (([1, wrap64 (1 + t124), rd y126 bt129.1, 3] : List Int) : List Int)).bind fun y132 => ((spec_l20Rd_pick.f k s0_0 bt129.2 4).bind fun bt135 => (if 0 ≤ bt135.1 then (if bt135.1 < (y132.length : Int) then ((spec_l2Gcd.f k (rd y114 (rd y117 t120)) (rd y132 bt135.1)).bind fun t138 => (if t138 = 0 then (none) else ((spec_l20Rd_odd.f k s0_0 bt135.2 a1).bind fun bt140 => (if bt140.1 = true then ((some (([(⟨2, 4⟩ : S24), (⟨1, 0⟩ : S24), (⟨1000000001, 1⟩ : S24), (⟨1, 1000001⟩ : S24), (⟨1, (-1)⟩ : S24), (⟨0, 0⟩ : S24)] : List (S24)) : List (S24))).bind fun y142 => ((spec_l20Rd_pick.f k s0_0 bt140.2 6).bind fun bt145 => (if 0 ≤ bt145.1 then (if bt145.1 < (y142.length : Int) then (some ((rd_T24 y142 bt145.1).f0, (rd_T24 y142 bt145.1).f1, bt145.2)) else (none)) else (none)))) else (some (wrap64 (Int.tdiv (rd y114 (rd y117 t120)) t138), wrap64 (Int.tdiv (rd y132 bt135.1) t138), bt140.2)))))) else (none)) else (none)))) else (none)) else (none)))) = some (r1, r2, r3) := H
          have A10 := Aside0.mk A100
          clear A100
          obtain ⟨y126, hy126⟩ : ∃ y_ : List Int, y_ = (([2, 4, 10, 100, 1000, 1000000] : List Int)) := ⟨_, rfl⟩
          replace H : ((spec_l20Rd_pick.f k s0_0 t125 6).bind fun bt129 => (if 0 ≤ bt129.1 then (if bt129.1 < (y126.length : Int) then ((some (([1, wrap64 (1 + t124), rd y126 bt129.1, 3] : List Int) : List Int)).bind fun y132 => ((spec_l20Rd_pick.f k s0_0 bt129.2 4).bind fun bt135 => (if 0 ≤ bt135.1 then (if bt135.1 < (y132.length : Int) then ((spec_l2Gcd.f k (rd y114 (rd y117 t120)) (rd y132 bt135.1)).bind fun t138 => (if t138 = 0 then (none) else ((spec_l20Rd_odd.f k s0_0 bt135.2 a1).bind fun bt140 => (if bt140.1 = true then ((some (([(⟨2, 4⟩ : S24), (⟨1, 0⟩ : S24), (⟨1000000001, 1⟩ : S24), (⟨1, 1000001⟩ : S24), (⟨1, (-1)⟩ : S24), (⟨0, 0⟩ : S24)] : List (S24)) : List (S24))).bind fun y142 => ((spec_l20Rd_pick.f k s0_0 bt140.2 6).bind fun bt145 => (if 0 ≤ bt145.1 then (if bt145.1 < (y142.length : Int) then (some ((rd_T24 y142 bt145.1).f0, (rd_T24 y142 bt145.1).f1, bt145.2)) else (none)) else (none)))) else (some (wrap64 (Int.tdiv (rd y114 (rd y117 t120)) t138), wrap64 (Int.tdiv (rd y132 bt135.1) t138), bt140.2)))))) else (none)) else (none)))) else (none)) else (none))) = some (r1, r2, r3) := by first | (rw [hy126]; with_reducible exact H) | (have H2_ := (Option.bind_some _ _).symm.trans H; rw [hy126]; with_reducible exact H2_) | (have H2_ := (Option.bind_some _ _).symm.trans H; with_reducible exact H2_) | with_reducible exact H | (rw [hy126]; exact H) | exact H
          have Ny126 := Aside0.mk hy126
          clear hy126
          replace H := Option.bind_eq_some_iff.mp H
          obtain ⟨⟨t129, t130⟩, A110, H⟩ := H
          replace H : (if 0 ≤ t129 then (if t129 < (y126.length : Int) then ((some (([1, wrap64 (1 + t124), rd y126 t129, 3] : List Int) : List Int)).bind fun y132 => ((spec_l20Rd_pick.f k s0_0 t130 4).bind fun bt135 => (if 0 ≤ bt135.1 then (if bt135.1 < (y132.length : Int) then ((spec_l2Gcd.f k (rd y114 (rd y117 t120)) (rd y132 bt135.1)).bind fun t138 => (if t138 = 0 then (none) else ((spec_l20Rd_odd.f k s0_0 bt135.2 a1).bind fun bt140 => (if bt140.1 = true then ((some (([(⟨2, 4⟩ : S24), (⟨1, 0⟩ : S24), (⟨1000000001, 1⟩ : S24), (⟨1, 1000001⟩ : S24), (⟨1, (-1)⟩ : S24), (⟨0, 0⟩ : S24)] : List (S24)) : List (S24))).bind fun y142 => ((spec_l20Rd_pick.f k s0_0 bt140.2 6).bind fun bt145 => (if 0 ≤ bt145.1 then (if bt145.1 < (y142.length : Int) then (some ((rd_T24 y142 bt145.1).f0, (rd_T24 y142 bt145.1).f1, bt145.2)) else (none)) else (none)))) else (some (wrap64 (Int.tdiv (rd y114 (rd y117 t120)) t138), wrap64 (Int.tdiv (rd y132 bt135.1) t138), bt140.2)))))) else (none)) else (none)))) else (none)) else (none)) = some (r1, r2, r3) := H
          have A11 := Aside0.mk A110
          clear A110
          by_cases c12 : 0 ≤ t129
          · rw [if_pos c12] at H
            have c12b0 : decide (0 ≤ t129) = true := decide_eq_true c12
            clear c12
            by_cases c13 : t129 < (y126.length : Int)
            · rw [if_pos c13] at H
              have c13b0 : decide (t129 < (y126.length : Int)) = true := decide_eq_true c13
              clear c13
              obtain ⟨y132, hy132⟩ : ∃ y_ : List Int, y_ = (([1, wrap64 (1 + t124), rd y126 t129, 3] : List Int)) := ⟨_, rfl⟩
              replace H : ((spec_l20Rd_pick.f k s0_0 t130 4).bind fun bt135 => (if 0 ≤ bt135.1 then (if bt135.1 < (y132.length : Int) then ((spec_l2Gcd.f k (rd y114 (rd y117 t120)) (rd y132 bt135.1)).bind fun t138 => (if t138 = 0 then (none) else ((spec_l20Rd_odd.f k s0_0 bt135.2 a1).bind fun bt140 => (if bt140.1 = true then ((some (([(⟨2, 4⟩ : S24), (⟨1, 0⟩ : S24), (⟨1000000001, 1⟩ : S24), (⟨1, 1000001⟩ : S24), (⟨1, (-1)⟩ : S24), (⟨0, 0⟩ : S24)] : List (S24)) : List (S24))).bind fun y142 => ((spec_l20Rd_pick.f k s0_0 bt140.2 6).bind fun bt145 => (if 0 ≤ bt145.1 then (if bt145.1 < (y142.length : Int) then (some ((rd_T24 y142 bt145.1).f0, (rd_T24 y142 bt145.1).f1, bt145.2)) else (none)) else (none)))) else (some (wrap64 (Int.tdiv (rd y114 (rd y117 t120)) t138), wrap64 (Int.tdiv (rd y132 bt135.1) t138), bt140.2)))))) else (none)) else (none))) = some (r1, r2, r3) := by first | (rw [hy132]; with_reducible exact H) | (have H2_ := (Option.bind_some _ _).symm.trans H; rw [hy132]; with_reducible exact H2_) | (have H2_ := (Option.bind_some _ _).symm.trans H; with_reducible exact H2_) | with_reducible exact H | (rw [hy132]; exact H) | exact H
              have Ny132 := Aside0.mk hy132
              clear hy132
              replace H := Option.bind_eq_some_iff.mp H
              obtain ⟨⟨t135, t136⟩, A140, H⟩ := H
              replace H : (if 0 ≤ t135 then (if t135 < (y132.length : Int) then ((spec_l2Gcd.f k (rd y114 (rd y117 t120)) (rd y132 t135)).bind fun t138 => (if t138 = 0 then (none) else ((spec_l20Rd_odd.f k s0_0 t136 a1).bind fun bt140 => (if bt140.1 = true then ((some (([(⟨2, 4⟩ : S24), (⟨1, 0⟩ : S24), (⟨1000000001, 1⟩ : S24), (⟨1, 1000001⟩ : S24), (⟨1, (-1)⟩ : S24), (⟨0, 0⟩ : S24)] : List (S24)) : List (S24))).bind fun y142 => ((spec_l20Rd_pick.f k s0_0 bt140.2 6).bind fun bt145 => (if 0 ≤ bt145.1 then (if bt145.1 < (y142.length : Int) then (some ((rd_T24 y142 bt145.1).f0, (rd_T24 y142 bt145.1).f1, bt145.2)) else (none)) else (none)))) else (some (wrap64 (Int.tdiv (rd y114 (rd y117 t120)) t138), wrap64 (Int.tdiv (rd y132 t135) t138), bt140.2)))))) else (none)) else (none)) = some (r1, r2, r3) := H
              have A14 := Aside0.mk A140
              clear A140
              by_cases c15 : 0 ≤ t135
              · rw [if_pos c15] at H
                have c15b0 : decide (0 ≤ t135) = true := decide_eq_true c15
                clear c15
                by_cases c16 : t135 < (y132.length : Int)
                · rw [if_pos c16] at H
                  have c16b0 : decide (t135 < (y132.length : Int)) = true := decide_eq_true c16
                  clear c16
                  replace H := Option.bind_eq_some_iff.mp H
                  obtain ⟨t138, A170, H⟩ := H
                  replace H : (if t138 = 0 then (none) else ((spec_l20Rd_odd.f k s0_0 t136 a1).bind fun bt140 => (if bt140.1 = true then ((some (([(⟨2, 4⟩ : S24), (⟨1, 0⟩ : S24), (⟨1000000001, 1⟩ : S24), (⟨1, 1000001⟩ : S24), (⟨1, (-1)⟩ : S24), (⟨0, 0⟩ : S24)] : List (S24)) : List (S24))).bind fun y142 => ((spec_l20Rd_pick.f k s0_0 bt140.2 6).bind fun bt145 => (if 0 ≤ bt145.1 then (if bt145.1 < (y142.length : Int) then (some ((rd_T24 y142 bt145.1).f0, (rd_T24 y142 bt145.1).f1, bt145.2)) else (none)) else (none)))) else (some (wrap64 (Int.tdiv (rd y114 (rd y117 t120)) t138), wrap64 (Int.tdiv (rd y132 t135) t138), bt140.2))))) = some (r1, r2, r3) := H
                  have A17 := Aside0.mk A170
                  clear A170
                  by_cases c18 : t138 = 0
                  · rw [if_pos c18] at H
                    exact absurd H (by simp)
                  · rw [if_neg c18] at H
                    have c18b0 : (t138 == 0) = false := beq_eq_false_iff_ne.mpr c18
                    have c18b1 : (t138 != 0) = true := bne_iff_ne.mpr c18
                    replace H := Option.bind_eq_some_iff.mp H
                    obtain ⟨⟨t140, t141⟩, A190, H⟩ := H
                    replace H : (if t140 = true then ((some (([(⟨2, 4⟩ : S24), (⟨1, 0⟩ : S24), (⟨1000000001, 1⟩ : S24), (⟨1, 1000001⟩ : S24), (⟨1, (-1)⟩ : S24), (⟨0, 0⟩ : S24)] : List (S24)) : List (S24))).bind fun y142 => ((spec_l20Rd_pick.f k s0_0 t141 6).bind fun bt145 => (if 0 ≤ bt145.1 then (if bt145.1 < (y142.length : Int) then (some ((rd_T24 y142 bt145.1).f0, (rd_T24 y142 bt145.1).f1, bt145.2)) else (none)) else (none)))) else (some (wrap64 (Int.tdiv (rd y114 (rd y117 t120)) t138), wrap64 (Int.tdiv (rd y132 t135) t138), t141))) = some (r1, r2, r3) := H
                    have A19 := Aside0.mk A190
                    clear A190
                    by_cases c20 : t140 = true
                    · subst c20
                      have H1 : ((some (([(⟨2, 4⟩ : S24), (⟨1, 0⟩ : S24), (⟨1000000001, 1⟩ : S24), (⟨1, 1000001⟩ : S24), (⟨1, (-1)⟩ : S24), (⟨0, 0⟩ : S24)] : List (S24)) : List (S24))).bind fun y142 => ((spec_l20Rd_pick.f k s0_0 t141 6).bind fun bt145 => (if 0 ≤ bt145.1 then (if bt145.1 < (y142.length : Int) then (some ((rd_T24 y142 bt145.1).f0, (rd_T24 y142 bt145.1).f1, bt145.2)) else (none)) else (none)))) = some (r1, r2, r3) := by rw [if_pos rfl] at H; exact H
                      clear H
                      have H := H1
                      clear H1
                      obtain ⟨y142, hy142⟩ : ∃ y_ : List (S24), y_ = (([(⟨2, 4⟩ : S24), (⟨1, 0⟩ : S24), (⟨1000000001, 1⟩ : S24), (⟨1, 1000001⟩ : S24), (⟨1, (-1)⟩ : S24), (⟨0, 0⟩ : S24)] : List (S24))) := ⟨_, rfl⟩
                      replace H : ((spec_l20Rd_pick.f k s0_0 t141 6).bind fun bt145 => (if 0 ≤ bt145.1 then (if bt145.1 < (y142.length : Int) then (some ((rd_T24 y142 bt145.1).f0, (rd_T24 y142 bt145.1).f1, bt145.2)) else (none)) else (none))) = some (r1, r2, r3) := by first | (rw [hy142]; with_reducible exact H) | (have H2_ := (Option.bind_some _ _).symm.trans H; rw [hy142]; with_reducible exact H2_) | (have H2_ := (Option.bind_some _ _).symm.trans H; with_reducible exact H2_) | with_reducible exact H | (rw [hy142]; exact H) | exact H
                      have Ny142 := Aside0.mk hy142
                      clear hy142
                      replace H := Option.bind_eq_some_iff.mp H
                      obtain ⟨⟨t145, t146⟩, A210, H⟩ := H
                      replace H : (if 0 ≤ t145 then (if t145 < (y142.length : Int) then (some ((rd_T24 y142 t145).f0, (rd_T24 y142 t145).f1, t146)) else (none)) else (none)) = some (r1, r2, r3) := H
                      have A21 := Aside0.mk A210
                      clear A210
                      by_cases c22 : 0 ≤ t145
                      · rw [if_pos c22] at H
                        have c22b0 : decide (0 ≤ t145) = true := decide_eq_true c22
                        clear c22
                        by_cases c23 : t145 < (y142.length : Int)
                        · rw [if_pos c23] at H
                          have c23b0 : decide (t145 < (y142.length : Int)) = true := decide_eq_true c23
                          clear c23
                          simp only [Option.some.injEq, Prod.mk.injEq] at H
                          obtain ⟨rfl, rfl, rfl⟩ := H
                          go_enter Try.func29, Try.ntmps29
                          try go_wp2_with (first | ((with_reducible refine gate_dst (N := 4) rfl ?_); refine box_event ?hg (N := 4) ?hd (cs := #[.int .i64 0, .int .i64 0]) (t := 24) ?hr ?_; (case hd => rfl); (case hg => rfl); (case hr => first | (go_simp; done) | (go_simp; rfl)); intro gb109 hg w24 hbox hb; have n0_ := Aside0.mk (IsS50.below (by repeat (first | (with_reducible first | exact HI0.out | apply IsS50.alloc | apply IsS50.drewN | apply IsS50.drew | apply IsS50.set_1) | exact HI0.out)) hb); have n1_ := Aside0.mk (KeepBut.trans (by repeat (first | (with_reducible first | exact HK.out | apply KeepBut.set_ | apply keep_drewN | apply keep_drew | apply keep_alloc) | exact HK.out)) (KeepBut.of_below hb g none) (.inl rfl)); have n2_ := Aside0.mk (below_step (by repeat (first | (with_reducible first | exact HB.out | apply below_alloc | apply pw_below_drewN | apply below_drew1 | refine below_set ?_ (IsS50.ge HI0.out)) | exact HB.out)) hb); have n3_ := Aside0.mk (hbox); have n4_ := Aside0.mk ((by rw [hg]; exact (keep_size (w := w) (g := g) (row := none) (by repeat (first | (with_reducible first | exact HK.out | apply KeepBut.set_ | apply keep_drewN | apply keep_drew | apply keep_alloc) | exact HK.out))) : w.heap.size ≤ gb109)); have n5_ := Aside0.mk ((Nat.le_trans HW0.out (by rw [hg]; exact (keep_size (w := w) (g := g) (row := none) (by repeat (first | (with_reducible first | exact HK.out | apply KeepBut.set_ | apply keep_drewN | apply keep_drew | apply keep_alloc) | exact HK.out))) : w.heap.size ≤ gb109) : w0.heap.size ≤ gb109)); have n6_ := Aside0.mk ((by rw [hg]; exact Nat.ne_of_lt (IsS50.lt (show IsS50 w0 _ g s0_0 s0_1 from by repeat (first | (with_reducible first | exact HI0.out | apply IsS50.alloc | apply IsS50.drewN | apply IsS50.drew | apply IsS50.set_1) | exact HI0.out))) : g ≠ gb109)); have n7_ := Aside0.mk ((by rw [hg]; exact Nat.ne_of_gt (IsS50.lt (show IsS50 w0 _ g s0_0 s0_1 from by repeat (first | (with_reducible first | exact HI0.out | apply IsS50.alloc | apply IsS50.drewN | apply IsS50.drew | apply IsS50.set_1) | exact HI0.out))) : gb109 ≠ g)); clear HI0; clear HK; clear HB; have HI0 := n0_; have HK := n1_; have HB := n2_; have BK109 := n3_; have GW109 := n4_; have GE109 := n5_; have NB0_109 := n6_; have NB109_0 := n7_; clear n0_ n1_ n2_ n3_ n4_ n5_ n6_ n7_; clear hb hbox hg) | ((with_reducible refine gate_callee (f := 30) rfl ?_); refine goesL_ (some 10) rfl rfl Try.func30 (by kernel_rfl) rfl #[.pointer (some ⟨g, 0, none⟩), .int .i64 24] rfl (by (try simp only [List.map_toArray, List.map_cons, List.map_nil]); first | done | rfl | (simp only [List.length_drop, List.length_take]; rfl)) ?_; (with_reducible refine (spec_l20Rd_pick.calls k g s0_0 s0_1 24 t110 t111 w0 _ ?side1 ?side2 A3.out).mono ?_); (case side1 => repeat (first | (with_reducible first | exact HI0.out | apply IsS50.alloc | apply IsS50.drewN | apply IsS50.drew | apply IsS50.set_1 | refine IsS50.far ?_ NB0_109.out _) | exact HI0.out)); (case side2 => repeat (first | (with_reducible first | exact HB.out | apply below_alloc | apply pw_below_drewN | apply below_drew1 | refine below_set ?_ (IsS50.ge HI0.out) | refine below_set ?_ GE109.out) | exact HB.out)); rintro e w25 ⟨rfl, hi, hb, hk⟩; refine ⟨_, rfl, ?_⟩; have n0_ := Aside0.mk (KeepBut.blk hk (g' := gb109) (o := .cells #[.int .i64 0, .int .i64 0] 24 (0, 0)) (by (with_reducible repeat (first | refine blk_drewN ?_ _ | refine blk_drew ?_ | refine blk_alloc ?_ _)); exact BK109.out) NB109_0.out (by simp)); have n1_ := Aside0.mk (KeepBut.trans (by repeat (first | (with_reducible first | exact HK.out | apply KeepBut.set_ | apply keep_drewN | apply keep_drew | apply keep_alloc | refine keep_far ?_ GW109.out _) | exact HK.out)) hk (.inl rfl)); have n2_ := Aside0.mk (hb); have n3_ := Aside0.mk (hi); clear BK109; clear HK; clear HB; clear HI0; have BK109 := n0_; have HK := n1_; have HB := n2_; have HI0 := n3_; clear n0_ n1_ n2_ n3_; (try clear hb); (try clear hb2); (try clear hk); (try clear hi)) | ((with_reducible refine gate_callee (f := 30) rfl ?_); refine goesL_ (some 13) rfl rfl Try.func30 (by kernel_rfl) rfl #[.pointer (some ⟨g, 0, none⟩), .int .i64 256] rfl (by (try simp only [List.map_toArray, List.map_cons, List.map_nil]); first | done | rfl | (simp only [List.length_drop, List.length_take]; rfl)) ?_; (with_reducible refine (spec_l20Rd_pick.calls k g s0_0 t111 256 t112 t113 w0 _ ?side1 ?side2 A4.out).mono ?_); (case side1 => repeat (first | (with_reducible first | exact HI0.out | apply IsS50.alloc | apply IsS50.drewN | apply IsS50.drew | apply IsS50.set_1 | refine IsS50.far ?_ NB0_109.out _) | exact HI0.out)); (case side2 => repeat (first | (with_reducible first | exact HB.out | apply below_alloc | apply pw_below_drewN | apply below_drew1 | refine below_set ?_ (IsS50.ge HI0.out) | refine below_set ?_ GE109.out) | exact HB.out)); rintro e w26 ⟨rfl, hi, hb, hk⟩; refine ⟨_, rfl, ?_⟩; have n0_ := Aside0.mk (KeepBut.blk hk (g' := gb109) (o := .cells #[.int .i64 0, .int .i64 0] 24 (0, 0)) (by (with_reducible repeat (first | refine blk_drewN ?_ _ | refine blk_drew ?_ | refine blk_alloc ?_ _)); exact BK109.out) NB109_0.out (by simp)); have n1_ := Aside0.mk (KeepBut.trans (by repeat (first | (with_reducible first | exact HK.out | apply KeepBut.set_ | apply keep_drewN | apply keep_drew | apply keep_alloc | refine keep_far ?_ GW109.out _) | exact HK.out)) hk (.inl rfl)); have n2_ := Aside0.mk (hb); have n3_ := Aside0.mk (hi); clear BK109; clear HK; clear HB; clear HI0; have BK109 := n0_; have HK := n1_; have HB := n2_; have HI0 := n3_; clear n0_ n1_ n2_ n3_; (try clear hb); (try clear hb2); (try clear hk); (try clear hi)) | ((with_reducible refine gate_dst (N := 15) rfl ?_); refine Kd.R_lit (Kd.int .i64) _ 3 ?hg (N := 15) ?hd (xs := ([wrap64 (t110 - 12), wrap64 (t112 * 999), 1000000000, (-1000000000)] : List Int)) (inner := [.int .i64 (wrap64 (t110 - 12)), .int .i64 (wrap64 (t112 * 999)), .int .i64 1000000000, .int .i64 (-1000000000)]) (ok := fun _ => True) (okp := fun _ => True) ?hr ?hp (fun _ hk => hk) trivial (Below.refl _ _) (Nat.le_refl _) (by simp) ?_; (case hd => rfl); (case hg => rfl); (case hr => first | (go_simp; done) | (go_simp; rfl)); (case hp => exact (Reps.one (show Kd.M (Kd.int .i64) _ _ _ (wrap64 (t110 - 12)) [.int .i64 (wrap64 (t110 - 12))] from rfl) (Reps.one (show Kd.M (Kd.int .i64) _ _ _ (wrap64 (t112 * 999)) [.int .i64 (wrap64 (t112 * 999))] from rfl) (Reps.one (show Kd.M (Kd.int .i64) _ _ _ 1000000000 [.int .i64 1000000000] from rfl) (Reps.one (show Kd.M (Kd.int .i64) _ _ _ (-1000000000) [.int .i64 (-1000000000)] from rfl) (Reps.none _ _)))))); intro v115 w27 ho28 hb hg_ hnew_; clear hg_ hnew_; (first | rw [← Ny114.out] at ho28 | (simp only [Int.reduceToNat] at ho28; rw [← Ny114.out] at ho28)); have n0_ := Aside0.mk (Kd.R_lower ho28 (keep_size (w := w) (g := g) (row := none) (by repeat (first | (with_reducible first | exact HK.out | apply KeepBut.set_ | apply keep_drewN | apply keep_drew | apply keep_alloc | refine keep_far ?_ GW109.out _) | exact HK.out)))); have n1_ := Aside0.mk (IsS50.below (by repeat (first | (with_reducible first | exact HI0.out | apply IsS50.alloc | apply IsS50.drewN | apply IsS50.drew | apply IsS50.set_1 | refine IsS50.far ?_ NB0_109.out _) | exact HI0.out)) hb); have n2_ := Aside0.mk (blk_below (g := gb109) (o := .cells #[.int .i64 0, .int .i64 0] 24 (0, 0)) (by (with_reducible repeat (first | refine blk_drewN ?_ _ | refine blk_drew ?_ | refine blk_alloc ?_ _)); exact BK109.out) hb); have n3_ := Aside0.mk (KeepBut.trans (by repeat (first | (with_reducible first | exact HK.out | apply KeepBut.set_ | apply keep_drewN | apply keep_drew | apply keep_alloc | refine keep_far ?_ GW109.out _) | exact HK.out)) (KeepBut.of_below hb g none) (.inl rfl)); have n4_ := Aside0.mk (below_step (by repeat (first | (with_reducible first | exact HB.out | apply below_alloc | apply pw_below_drewN | apply below_drew1 | refine below_set ?_ (IsS50.ge HI0.out) | refine below_set ?_ GE109.out) | exact HB.out)) hb); clear HI0; clear BK109; clear HK; clear HB; have HO116 := n0_; have HI0 := n1_; have BK109 := n2_; have HK := n3_; have HB := n4_; clear n0_ n1_ n2_ n3_ n4_; clear hb ho28) | ((with_reducible refine gate_dst (N := 16) rfl ?_); refine Kd.R_lit (Kd.int .i64) _ 3 ?hg (N := 16) ?hd (xs := ([0, 0, 0, 1, 2, 3] : List Int)) (inner := [.int .i64 0, .int .i64 0, .int .i64 0, .int .i64 1, .int .i64 2, .int .i64 3]) (ok := fun _ => True) (okp := fun _ => True) ?hr ?hp (fun _ hk => hk) trivial (Below.refl _ _) (Nat.le_refl _) (by simp) ?_; (case hd => rfl); (case hg => rfl); (case hr => first | (go_simp; done) | (go_simp; rfl)); (case hp => exact (Reps.one (show Kd.M (Kd.int .i64) _ _ _ 0 [.int .i64 0] from rfl) (Reps.one (show Kd.M (Kd.int .i64) _ _ _ 0 [.int .i64 0] from rfl) (Reps.one (show Kd.M (Kd.int .i64) _ _ _ 0 [.int .i64 0] from rfl) (Reps.one (show Kd.M (Kd.int .i64) _ _ _ 1 [.int .i64 1] from rfl) (Reps.one (show Kd.M (Kd.int .i64) _ _ _ 2 [.int .i64 2] from rfl) (Reps.one (show Kd.M (Kd.int .i64) _ _ _ 3 [.int .i64 3] from rfl) (Reps.none _ _)))))))); intro v118 w29 ho30 hb hg_ hnew_; clear hg_ hnew_; (first | rw [← Ny117.out] at ho30 | (simp only [Int.reduceToNat] at ho30; rw [← Ny117.out] at ho30)); have n0_ := Aside0.mk (Kd.R_elder' (by (with_reducible repeat (first | apply Kd.R_alloc | apply Kd.R_drewN | apply Kd.R_drew)); exact HO116.out) (Kd.R_base ho30) hb); have n1_ := Aside0.mk (Kd.R_lower (Kd.R_new' ho30 (Kd.R_lt (by (with_reducible repeat (first | apply Kd.R_alloc | apply Kd.R_drewN | apply Kd.R_drew)); exact HO116.out))) (keep_size (w := w) (g := g) (row := none) (by repeat (first | (with_reducible first | exact HK.out | apply KeepBut.set_ | apply keep_drewN | apply keep_drew | apply keep_alloc | refine keep_far ?_ GW109.out _) | exact HK.out)))); have n2_ := Aside0.mk (IsS50.below (by repeat (first | (with_reducible first | exact HI0.out | apply IsS50.alloc | apply IsS50.drewN | apply IsS50.drew | apply IsS50.set_1 | refine IsS50.far ?_ NB0_109.out _) | exact HI0.out)) hb); have n3_ := Aside0.mk (blk_below (g := gb109) (o := .cells #[.int .i64 0, .int .i64 0] 24 (0, 0)) (by (with_reducible repeat (first | refine blk_drewN ?_ _ | refine blk_drew ?_ | refine blk_alloc ?_ _)); exact BK109.out) hb); have n4_ := Aside0.mk (KeepBut.trans (by repeat (first | (with_reducible first | exact HK.out | apply KeepBut.set_ | apply keep_drewN | apply keep_drew | apply keep_alloc | refine keep_far ?_ GW109.out _) | exact HK.out)) (KeepBut.of_below hb g none) (.inl rfl)); have n5_ := Aside0.mk (below_step (by repeat (first | (with_reducible first | exact HB.out | apply below_alloc | apply pw_below_drewN | apply below_drew1 | refine below_set ?_ (IsS50.ge HI0.out) | refine below_set ?_ GE109.out) | exact HB.out)) hb); clear HO116; clear HI0; clear BK109; clear HK; clear HB; have HO116 := n0_; have HO119 := n1_; have HI0 := n2_; have BK109 := n3_; have HK := n4_; have HB := n5_; clear n0_ n1_ n2_ n3_ n4_ n5_; clear hb ho30) | ((with_reducible refine gate_callee (f := 30) rfl ?_); refine goesL_ (some 18) rfl rfl Try.func30 (by kernel_rfl) rfl #[.pointer (some ⟨g, 0, none⟩), .int .i64 6] rfl (by (try simp only [List.map_toArray, List.map_cons, List.map_nil]); first | done | rfl | (simp only [List.length_drop, List.length_take]; rfl)) ?_; (with_reducible refine (spec_l20Rd_pick.calls k g s0_0 t113 6 t120 t121 w0 _ ?side1 ?side2 A5.out).mono ?_); (case side1 => repeat (first | (with_reducible first | exact HI0.out | apply IsS50.alloc | apply IsS50.drewN | apply IsS50.drew | apply IsS50.set_1 | refine IsS50.far ?_ NB0_109.out _) | exact HI0.out)); (case side2 => repeat (first | (with_reducible first | exact HB.out | apply below_alloc | apply pw_below_drewN | apply below_drew1 | refine below_set ?_ (IsS50.ge HI0.out) | refine below_set ?_ GE109.out) | exact HB.out)); rintro e w31 ⟨rfl, hi, hb, hk⟩; refine ⟨_, rfl, ?_⟩; have n0_ := Aside0.mk (KeepBut.blk hk (g' := gb109) (o := .cells #[.int .i64 0, .int .i64 0] 24 (0, 0)) (by (with_reducible repeat (first | refine blk_drewN ?_ _ | refine blk_drew ?_ | refine blk_alloc ?_ _)); exact BK109.out) NB109_0.out (by simp)); have n1_ := Aside0.mk (Kd.R_mono (Kd.R_keep (IsS50.apart (show IsS50 w0 _ g s0_0 t113 from by repeat (first | (with_reducible first | exact HI0.out | apply IsS50.alloc | apply IsS50.drewN | apply IsS50.drew | apply IsS50.set_1 | refine IsS50.far ?_ NB0_109.out _) | exact HI0.out)) (by (with_reducible repeat (first | apply Kd.R_alloc | apply Kd.R_drewN | apply Kd.R_drew)); exact HO116.out) (by decide)) hk (fun _ h => h.2)) (fun _ h => h.1)); have n2_ := Aside0.mk (Kd.R_mono (Kd.R_keep (IsS50.apart (show IsS50 w0 _ g s0_0 t113 from by repeat (first | (with_reducible first | exact HI0.out | apply IsS50.alloc | apply IsS50.drewN | apply IsS50.drew | apply IsS50.set_1 | refine IsS50.far ?_ NB0_109.out _) | exact HI0.out)) (by (with_reducible repeat (first | apply Kd.R_alloc | apply Kd.R_drewN | apply Kd.R_drew)); exact HO119.out) (by decide)) hk (fun _ h => h.2)) (fun _ h => h.1)); have n3_ := Aside0.mk (KeepBut.trans (by repeat (first | (with_reducible first | exact HK.out | apply KeepBut.set_ | apply keep_drewN | apply keep_drew | apply keep_alloc | refine keep_far ?_ GW109.out _) | exact HK.out)) hk (.inl rfl)); have n4_ := Aside0.mk (hb); have n5_ := Aside0.mk (hi); clear BK109; clear HO116; clear HO119; clear HK; clear HB; clear HI0; have BK109 := n0_; have HO116 := n1_; have HO119 := n2_; have HK := n3_; have HB := n4_; have HI0 := n5_; clear n0_ n1_ n2_ n3_ n4_ n5_; (try clear hb); (try clear hb2); (try clear hk); (try clear hi); obtain ⟨Ao32, co32, eo32⟩ := Kd.R_slice HO119.out; subst eo32; have p122 : 0 ≤ (t120 : Int) := of_decide_eq_true (by first | (with_reducible assumption) | assumption); have q122 : t120 < (y117.length : Int) := of_decide_eq_true (by first | (with_reducible assumption) | assumption); obtain ⟨ad122, e122, hx122_0⟩ := Kd.at_int (Kd.R_reads' HO119.out).2.2 t120 p122 q122; cases e122; replace p122 := eq_true p122; replace q122 := eq_true q122; obtain ⟨Ao33, co33, eo33⟩ := Kd.R_slice HO116.out; subst eo33; have p123 : 0 ≤ ((rd y117 t120) : Int) := of_decide_eq_true (by first | (with_reducible assumption) | assumption); have q123 : (rd y117 t120) < (y114.length : Int) := of_decide_eq_true (by first | (with_reducible assumption) | assumption); obtain ⟨ad123, e123, hx123_0⟩ := Kd.at_int (Kd.R_reads' HO116.out).2.2 (rd y117 t120) p123 q123; cases e123; replace p123 := eq_true p123; replace q123 := eq_true q123))
                          have pi131 : (0 ≤ (t129 : Int)) = True := eq_true (of_decide_eq_true (by first | (with_reducible assumption) | assumption))
                          have qi131 : (t129 < (y126.length : Int)) = True := eq_true (of_decide_eq_true (by first | (with_reducible assumption) | assumption))
                          have pi137 : (0 ≤ (t135 : Int)) = True := eq_true (of_decide_eq_true (by first | (with_reducible assumption) | assumption))
                          have qi137 : (t135 < (y132.length : Int)) = True := eq_true (of_decide_eq_true (by first | (with_reducible assumption) | assumption))
                          have n0_ := Aside0.mk (Kd.R_drew HO116.out)
                          have n1_ := Aside0.mk (Kd.R_drew HO119.out)
                          have n2_ := Aside0.mk (blk_drew BK109.out)
                          have n3_ := Aside0.mk (IsS50.drew HI0.out)
                          have n4_ := Aside0.mk (keep_drew HK.out)
                          have n5_ := Aside0.mk (below_drew1 HB.out)
                          clear HO116
                          clear HO119
                          clear BK109
                          clear HI0
                          clear HK
                          clear HB
                          have HO116 := n0_
                          have HO119 := n1_
                          have BK109 := n2_
                          have HI0 := n3_
                          have HK := n4_
                          have HB := n5_
                          clear n0_ n1_ n2_ n3_ n4_ n5_
                          refine start_ (n := 14) (S := fun w' => True) (ds := []) #[false, false, false, false, false, false, false, false, false, false, false, false, false, false] (by kernel_rfl) rfl rfl trivial (fun hHeld => ?_); refine with_tabW spec_l20Fraction.tab2 spec_l20Fraction.bits2 (fun HT_ HW_ => ?_)
                          generalize w31.drew = w34 at HO116 HO119 BK109 HI0 HK HB hHeld ⊢
                          refine pure_ (i := 0) (N := some 23) (v := ?_) (a' := ?_) #[true, false, false, false, false, false, false, false, false, false, false, false, false, false] rfl rfl (any_of HT_.out (by kernel_rfl)) (fun _ _ _ h => h) (Or.inl ⟨by rfl, ?_⟩) ?_ ?_
                          rotate_left
                          · intro w'
                            go_simp
                            with_reducible rfl
                          rotate_left
                          · simp only [Act.put, List.setIfInBounds_toArray, List.set_cons_zero, List.set_cons_succ, i64_w, i32_w]
                            rfl
                          refine pure_ (i := 4) (N := some 27) (v := ?_) (a' := ?_) #[true, false, false, false, true, false, false, false, false, false, false, false, false, false] rfl rfl (any_of HT_.out (by kernel_rfl)) (fun _ _ _ h => h) (Or.inl ⟨by rfl, ?_⟩) ?_ ?_
                          rotate_left
                          · intro w'
                            go_simp
                            with_reducible rfl
                          rotate_left
                          · simp only [Act.put, List.setIfInBounds_toArray, List.set_cons_zero, List.set_cons_succ, i64_w, i32_w]
                            rfl
                          refine pure_ (i := 9) (N := some 32) (v := ?_) (a' := ?_) #[true, false, false, false, true, false, false, false, false, true, false, false, false, false] rfl rfl (any_of HT_.out (by kernel_rfl)) (fun _ _ _ h => h) (Or.inl ⟨by rfl, ?_⟩) ?_ ?_
                          rotate_left
                          · intro w'
                            go_simp
                            with_reducible rfl
                          rotate_left
                          · simp only [Act.put, List.setIfInBounds_toArray, List.set_cons_zero, List.set_cons_succ, i64_w, i32_w]
                            rfl
                          refine inv_at [1, 2, 3, 5, 6, 7, 8, 10, 11, 12, 13] (fun a0_ b a w' => ∃ (v127 : Value) (adz_v127 : Addr) (v133 : Value) (adz_v133 : Addr) (m6_ : Value) (m11_ : Value), a = putSel a0_ b [(1, 24, .int .i64 t124), (2, 25, .int .i64 (wrap64 (1 + t124))), (3, 26, v127), (5, 28, .int .i64 t129), (6, 29, m6_), (7, 30, .int .i64 (rd y126 t129)), (8, 31, v133), (10, 33, .int .i64 t135), (11, 34, m11_), (12, 35, .int .i64 (rd y132 t135)), (13, 6, .int .i64 (rd y132 t135))] ∧ (Kd.R (Kd.int .i64) 3 w' w.heap.size (fun k_ => True ∧ some k_ ≠ (.slice (some ad122) y117.length co32 : Value).ownBlock) (.slice (some ad123) y114.length co33) y114) ∧ (Kd.R (Kd.int .i64) 3 w' w.heap.size (fun k_ => True ∧ some k_ ≠ (.slice (some ad123) y114.length co33 : Value).ownBlock) (.slice (some ad122) y117.length co32) y117) ∧ (w'.heap[gb109]? = some (.cells #[.int .i64 0, .int .i64 0] 24 (0, 0))) ∧ (b 1 = false → IsS50 w0 w' g s0_0 t121) ∧ (KeepBut w w' g none) ∧ (Below w0.heap.size w0 w') ∧ (b 1 = true → b 5 = false → IsS50 w0 w' g s0_0 t125) ∧ (b 3 = true → Kd.R (Kd.int .i64) 3 w' w.heap.size (fun k_ => some k_ ≠ (.slice (some ad123) y114.length co33 : Value).ownBlock ∧ some k_ ≠ (.slice (some ad122) y117.length co32 : Value).ownBlock) v127 y126) ∧ (b 3 = true → ∃ c_, (v127 : Value) = .slice (some adz_v127) y126.length c_) ∧ (b 5 = true → b 10 = false → IsS50 w0 w' g s0_0 t130) ∧ (b 8 = true → Kd.R (Kd.int .i64) 3 w' w.heap.size (fun k_ => some k_ ≠ (.slice (some ad123) y114.length co33 : Value).ownBlock ∧ some k_ ≠ (.slice (some ad122) y117.length co32 : Value).ownBlock) v133 y132) ∧ (b 8 = true → ∃ c_, (v133 : Value) = .slice (some adz_v133) y132.length c_) ∧ (b 10 = true → IsS50 w0 w' g s0_0 t136) ∧ (b 6 = true → (m6_ : Value) = .pointer (some (adz_v127.add (t129).toNat))) ∧ (b 11 = true → (m11_ : Value) = .pointer (some (adz_v133.add (t135).toNat)))) HT_.out HW_.out (by kernel_rfl) (by kernel_rfl) ?_ ?_ ?_
                          · exact ⟨.bool false, ⟨0, 0, none⟩, .bool false, ⟨0, 0, none⟩, .bool false, .bool false, by simp only [putSel, Bool.false_eq_true, if_false], HO116.out, HO119.out, BK109.out, fun _ => HI0.out, HK.out, HB.out, fun h_ => absurd h_ (by decide), fun h_ => absurd h_ (by decide), fun h_ => absurd h_ (by decide), fun h_ => absurd h_ (by decide), fun h_ => absurd h_ (by decide), fun h_ => absurd h_ (by decide), fun h_ => absurd h_ (by decide), fun h_ => absurd h_ (by decide), fun h_ => absurd h_ (by decide)⟩
                          · skip
                            clear BK109 HB HI0 HK HO116 HO119
                            refine steps_cons ?_ ?_
                            · rintro b a w' ⟨v127, adz_v127, v133, adz_v133, m6_, m11_, ha, Q_HO116, Q_HO119, Q_BK109, Q_HI0, Q_HK, Q_HB, Q_HI0_e1, Q_HO128, Q_HA_HO128, Q_HI0_e5, Q_HO134, Q_HA_HO134, Q_HI0_e10, Q_X6_, Q_X11_⟩ hb_ hon hoff
                              refine ⟨_, rfl, fun K hK => ?_⟩
                              have e23 : a.tmps[23]? = some (.pointer (some ⟨g, 0, none⟩)) := by rw [ha]; exact (putSel_off rfl).trans rfl
                              replace ha := Aside0.mk ha
                              have HO116 := Aside0.mk Q_HO116
                              have HO119 := Aside0.mk Q_HO119
                              have BK109 := Aside0.mk Q_BK109
                              have HI0 := Aside0.mk (Q_HI0 hb_)
                              have HK := Aside0.mk Q_HK
                              have HB := Aside0.mk Q_HB
                              refine goes_ Try.func30 (by kernel_rfl) rfl #[.pointer (some ⟨g, 0, none⟩), .int .i64 9] (by rfl) rfl rfl (by first | (simp only [List.map_toArray, List.map_cons, List.map_nil, Act.eval, Array.getD_eq_getD_getElem?, Option.getD_some, e23]; done) | (simp only [List.map_toArray, List.map_cons, List.map_nil, Act.eval, Array.getD_eq_getD_getElem?, Option.getD_some, e23]; rfl)) ?_
                              with_reducible refine (spec_l20Rd_pick.calls k g s0_0 t121 9 t124 t125 w0 _ ?side1 ?side2 A10.out).mono ?_
                              (case side1 => repeat (first | (with_reducible first | exact HI0.out | apply IsS50.alloc | apply IsS50.drewN | apply IsS50.drew | apply IsS50.set_1 | refine IsS50.far ?_ NB0_109.out _) | exact HI0.out))
                              (case side2 => repeat (first | (with_reducible first | exact HB.out | apply below_alloc | apply pw_below_drewN | apply below_drew1 | refine below_set ?_ (IsS50.ge HI0.out) | refine below_set ?_ GE109.out) | exact HB.out))
                              rintro e w35 ⟨rfl, hi, hb, hk⟩
                              refine ⟨_, rfl, ?_⟩
                              have n0_ := Aside0.mk (KeepBut.blk hk (g' := gb109) (o := .cells #[.int .i64 0, .int .i64 0] 24 (0, 0)) (by (with_reducible repeat (first | refine blk_drewN ?_ _ | refine blk_drew ?_ | refine blk_alloc ?_ _)); exact BK109.out) NB109_0.out (by simp))
                              have n1_ := Aside0.mk (Kd.R_mono (Kd.R_keep (IsS50.apart (show IsS50 w0 _ g s0_0 t121 from by repeat (first | (with_reducible first | exact HI0.out | apply IsS50.alloc | apply IsS50.drewN | apply IsS50.drew | apply IsS50.set_1 | refine IsS50.far ?_ NB0_109.out _) | exact HI0.out)) (by (with_reducible repeat (first | apply Kd.R_alloc | apply Kd.R_drewN | apply Kd.R_drew)); exact HO116.out) (by decide)) hk (fun _ h => h.2)) (fun _ h => h.1))
                              have n2_ := Aside0.mk (Kd.R_mono (Kd.R_keep (IsS50.apart (show IsS50 w0 _ g s0_0 t121 from by repeat (first | (with_reducible first | exact HI0.out | apply IsS50.alloc | apply IsS50.drewN | apply IsS50.drew | apply IsS50.set_1 | refine IsS50.far ?_ NB0_109.out _) | exact HI0.out)) (by (with_reducible repeat (first | apply Kd.R_alloc | apply Kd.R_drewN | apply Kd.R_drew)); exact HO119.out) (by decide)) hk (fun _ h => h.2)) (fun _ h => h.1))
                              have n3_ := Aside0.mk (KeepBut.trans (by repeat (first | (with_reducible first | exact HK.out | apply KeepBut.set_ | apply keep_drewN | apply keep_drew | apply keep_alloc | refine keep_far ?_ GW109.out _) | exact HK.out)) hk (.inl rfl))
                              have n4_ := Aside0.mk (hb)
                              have n5_ := Aside0.mk (hi)
                              have z_HO128 := fun (h0_ : b 3 = true) => (show Kd.R (Kd.int .i64) 3 w35 w.heap.size (fun k_ => some k_ ≠ (.slice (some ad123) y114.length co33 : Value).ownBlock ∧ some k_ ≠ (.slice (some ad122) y117.length co32 : Value).ownBlock) v127 y126 from by first | exact (Kd.R_mono (Kd.R_keep (IsS50.apart (show IsS50 w0 _ g s0_0 t121 from by repeat (first | (with_reducible first | exact HI0.out | apply IsS50.alloc | apply IsS50.drewN | apply IsS50.drew | apply IsS50.set_1 | refine IsS50.far ?_ NB0_109.out _) | exact HI0.out)) (by (with_reducible repeat (first | apply Kd.R_alloc | apply Kd.R_drewN | apply Kd.R_drew)); exact (Q_HO128 h0_)) (by decide)) hk (fun _ h => h.2)) (fun _ h => h.1)) | exact Kd.R_mono (Kd.R_mono (Kd.R_keep (IsS50.apart (show IsS50 w0 _ g s0_0 t121 from by repeat (first | (with_reducible first | exact HI0.out | apply IsS50.alloc | apply IsS50.drewN | apply IsS50.drew | apply IsS50.set_1 | refine IsS50.far ?_ NB0_109.out _) | exact HI0.out)) (by (with_reducible repeat (first | apply Kd.R_alloc | apply Kd.R_drewN | apply Kd.R_drew)); exact (Q_HO128 h0_)) (by decide)) hk (fun _ h => h.2)) (fun _ h => h.1)) (fun _ h_ => by first | trivial | exact h_ | exact h_.1))
                              clear BK109
                              clear HO116
                              clear HO119
                              clear HK
                              clear HB
                              clear HI0
                              have BK109 := n0_
                              have HO116 := n1_
                              have HO119 := n2_
                              have HK := n3_
                              have HB := n4_
                              have HI0 := n5_
                              clear n0_ n1_ n2_ n3_ n4_ n5_
                              (try clear hb)
                              (try clear hb2)
                              (try clear hk)
                              (try clear hi)
                              refine hK.out _ _ ⟨v127, adz_v127, v133, adz_v133, m6_, m11_, (by rw [ha.out]; exact putSel_upk 0 hb_ rfl rfl rfl), (by (with_reducible repeat (first | apply Kd.R_alloc | apply Kd.R_drewN | apply Kd.R_drew)); exact Kd.R_mono HO116.out (fun _ hk => by first | grind | (simp only [true_and, and_assoc] at hk ⊢; grind))), (by (with_reducible repeat (first | apply Kd.R_alloc | apply Kd.R_drewN | apply Kd.R_drew)); exact Kd.R_mono HO119.out (fun _ hk => by first | grind | (simp only [true_and, and_assoc] at hk ⊢; grind))), (by (with_reducible repeat (first | refine blk_drewN ?_ _ | refine blk_drew ?_ | refine blk_alloc ?_ _)); exact BK109.out), fun h0_ => absurd ((up_self b 1).symm.trans h0_) (by decide), (by repeat (first | (with_reducible first | exact HK.out | apply KeepBut.set_ | apply keep_drewN | apply keep_drew | apply keep_alloc | refine keep_far ?_ GW109.out _) | exact HK.out)), (by repeat (first | (with_reducible first | exact HB.out | apply below_alloc | apply pw_below_drewN | apply below_drew1 | refine below_set ?_ (IsS50.ge HI0.out) | refine below_set ?_ GE109.out) | exact HB.out)), fun _ _ => (by repeat (first | (with_reducible first | exact HI0.out | apply IsS50.alloc | apply IsS50.drewN | apply IsS50.drew | apply IsS50.set_1 | refine IsS50.far ?_ NB0_109.out _) | exact HI0.out)), z_HO128, Q_HA_HO128, fun h0_ _ => absurd ((hoff 5 (by kernel_rfl)).symm.trans h0_) (by decide), fun h0_ => absurd ((hoff 8 (by kernel_rfl)).symm.trans h0_) (by decide), fun h0_ => absurd ((hoff 8 (by kernel_rfl)).symm.trans h0_) (by decide), fun h0_ => absurd ((hoff 10 (by kernel_rfl)).symm.trans h0_) (by decide), fun h0_ => absurd ((hoff 6 (by kernel_rfl)).symm.trans h0_) (by decide), fun h0_ => absurd ((hoff 11 (by kernel_rfl)).symm.trans h0_) (by decide)⟩
                            refine steps_cons ?_ ?_
                            · rintro b a w' ⟨v127, adz_v127, v133, adz_v133, m6_, m11_, ha, Q_HO116, Q_HO119, Q_BK109, Q_HI0, Q_HK, Q_HB, Q_HI0_e1, Q_HO128, Q_HA_HO128, Q_HI0_e5, Q_HO134, Q_HA_HO134, Q_HI0_e10, Q_X6_, Q_X11_⟩ hb_ hon hoff
                              refine ⟨_, rfl, fun K hK => ?_⟩
                              have e24 : a.tmps[24]? = some (.int .i64 t124) := by rw [ha]; exact putSel_on (e := (1, 24, .int .i64 t124)) 0 rfl rfl (hon 1 (by kernel_rfl)) rfl
                              replace ha := Aside0.mk ha
                              have HO116 := Aside0.mk Q_HO116
                              have HO119 := Aside0.mk Q_HO119
                              have BK109 := Aside0.mk Q_BK109
                              have HK := Aside0.mk Q_HK
                              have HB := Aside0.mk Q_HB
                              refine value_ (w1 := w') (v := .int .i64 (wrap64 (1 + t124))) (by rfl) rfl ?_ ?_
                              · go_simp
                                (try simp only [i64_w])
                                try rfl
                              refine hK.out _ _ ⟨v127, adz_v127, v133, adz_v133, m6_, m11_, (by rw [ha.out]; exact putSel_upk 1 hb_ rfl rfl rfl), Q_HO116, Q_HO119, Q_BK109, fun h0_ => absurd ((hon 1 (by kernel_rfl)).symm.trans h0_) (by decide), Q_HK, Q_HB, Q_HI0_e1, Q_HO128, Q_HA_HO128, Q_HI0_e5, fun h0_ => absurd ((hoff 8 (by kernel_rfl)).symm.trans h0_) (by decide), fun h0_ => absurd ((hoff 8 (by kernel_rfl)).symm.trans h0_) (by decide), Q_HI0_e10, Q_X6_, fun h0_ => absurd ((hoff 11 (by kernel_rfl)).symm.trans h0_) (by decide)⟩
                            refine steps_cons ?_ ?_
                            · rintro b a w' ⟨v127, adz_v127, v133, adz_v133, m6_, m11_, ha, Q_HO116, Q_HO119, Q_BK109, Q_HI0, Q_HK, Q_HB, Q_HI0_e1, Q_HO128, Q_HA_HO128, Q_HI0_e5, Q_HO134, Q_HA_HO134, Q_HI0_e10, Q_X6_, Q_X11_⟩ hb_ hon hoff
                              refine ⟨_, rfl, fun K hK => ?_⟩
                              replace ha := Aside0.mk ha
                              have HO116 := Aside0.mk Q_HO116
                              have HO119 := Aside0.mk Q_HO119
                              have BK109 := Aside0.mk Q_BK109
                              have HK := Aside0.mk Q_HK
                              have HB := Aside0.mk Q_HB
                              refine Kd.R_lit_step (Kd.int .i64) _ 3 ?hg (N := 26) ?hd (xs := ([2, 4, 10, 100, 1000, 1000000] : List Int)) (inner := [.int .i64 2, .int .i64 4, .int .i64 10, .int .i64 100, .int .i64 1000, .int .i64 1000000]) (ok := fun _ => True) (okp := fun _ => True) ?hr ?hp (fun _ hk => hk) trivial (Below.refl _ _) (Nat.le_refl _) (by simp) ?_; (case hd => rfl); (case hg => rfl); (case hr => first | (go_simp; done) | (go_simp; rfl)); (case hp => exact (Reps.one (show Kd.M (Kd.int .i64) _ _ _ 2 [.int .i64 2] from rfl) (Reps.one (show Kd.M (Kd.int .i64) _ _ _ 4 [.int .i64 4] from rfl) (Reps.one (show Kd.M (Kd.int .i64) _ _ _ 10 [.int .i64 10] from rfl) (Reps.one (show Kd.M (Kd.int .i64) _ _ _ 100 [.int .i64 100] from rfl) (Reps.one (show Kd.M (Kd.int .i64) _ _ _ 1000 [.int .i64 1000] from rfl) (Reps.one (show Kd.M (Kd.int .i64) _ _ _ 1000000 [.int .i64 1000000] from rfl) (Reps.none _ _))))))))
                              intro v127 w35 ho36 hb hg_ hnew_
                              clear hg_ hnew_
                              (first | rw [← Ny126.out] at ho36 | (simp only [Int.reduceToNat] at ho36; rw [← Ny126.out] at ho36))
                              have n0_ := Aside0.mk (Kd.R_elder' (by (with_reducible repeat (first | apply Kd.R_alloc | apply Kd.R_drewN | apply Kd.R_drew)); exact HO116.out) (Kd.R_base ho36) hb)
                              have n1_ := Aside0.mk (Kd.R_elder' (by (with_reducible repeat (first | apply Kd.R_alloc | apply Kd.R_drewN | apply Kd.R_drew)); exact HO119.out) (Kd.R_base ho36) hb)
                              have n2_ := Aside0.mk (Kd.R_lower (Kd.R_new' (Kd.R_new' ho36 (Kd.R_lt (by (with_reducible repeat (first | apply Kd.R_alloc | apply Kd.R_drewN | apply Kd.R_drew)); exact HO116.out))) (Kd.R_lt (by (with_reducible repeat (first | apply Kd.R_alloc | apply Kd.R_drewN | apply Kd.R_drew)); exact HO119.out))) (keep_size (w := w) (g := g) (row := none) (by repeat (first | (with_reducible first | exact HK.out | apply KeepBut.set_ | apply keep_drewN | apply keep_drew | apply keep_alloc | refine keep_far ?_ GW109.out _) | exact HK.out))))
                              have n4_ := Aside0.mk (blk_below (g := gb109) (o := .cells #[.int .i64 0, .int .i64 0] 24 (0, 0)) (by (with_reducible repeat (first | refine blk_drewN ?_ _ | refine blk_drew ?_ | refine blk_alloc ?_ _)); exact BK109.out) hb)
                              have n5_ := Aside0.mk (KeepBut.trans (by repeat (first | (with_reducible first | exact HK.out | apply KeepBut.set_ | apply keep_drewN | apply keep_drew | apply keep_alloc | refine keep_far ?_ GW109.out _) | exact HK.out)) (KeepBut.of_below hb g none) (.inl rfl))
                              have n6_ := Aside0.mk (below_step (by repeat (first | (with_reducible first | exact HB.out | apply below_alloc | apply pw_below_drewN | apply below_drew1 | refine below_set ?_ GE109.out) | exact HB.out)) hb)
                              have z_HI0 := fun (h0_ : b 1 = false) => (show IsS50 w0 w35 g s0_0 t121 from by first | exact (IsS50.below (by repeat (first | (with_reducible first | exact (Q_HI0 h0_) | apply IsS50.alloc | apply IsS50.drewN | apply IsS50.drew | apply IsS50.set_1 | refine IsS50.far ?_ NB0_109.out _) | exact (Q_HI0 h0_))) hb))
                              have z_HI0_e1 := fun (h0_ : b 1 = true) (h1_ : b 5 = false) => (show IsS50 w0 w35 g s0_0 t125 from by first | exact (IsS50.below (by repeat (first | (with_reducible first | exact (Q_HI0_e1 h0_ h1_) | apply IsS50.alloc | apply IsS50.drewN | apply IsS50.drew | apply IsS50.set_1 | refine IsS50.far ?_ NB0_109.out _) | exact (Q_HI0_e1 h0_ h1_))) hb))
                              have z_HI0_e5 := fun (h0_ : b 5 = true) (h1_ : b 10 = false) => (show IsS50 w0 w35 g s0_0 t130 from by first | exact (IsS50.below (by repeat (first | (with_reducible first | exact (Q_HI0_e5 h0_ h1_) | apply IsS50.alloc | apply IsS50.drewN | apply IsS50.drew | apply IsS50.set_1 | refine IsS50.far ?_ NB0_109.out _) | exact (Q_HI0_e5 h0_ h1_))) hb))
                              have z_HI0_e10 := fun (h0_ : b 10 = true) => (show IsS50 w0 w35 g s0_0 t136 from by first | exact (IsS50.below (by repeat (first | (with_reducible first | exact (Q_HI0_e10 h0_) | apply IsS50.alloc | apply IsS50.drewN | apply IsS50.drew | apply IsS50.set_1 | refine IsS50.far ?_ NB0_109.out _) | exact (Q_HI0_e10 h0_))) hb))
                              clear HO116
                              clear HO119
                              clear BK109
                              clear HK
                              clear HB
                              have HO116 := n0_
                              have HO119 := n1_
                              have HO128 := n2_
                              have BK109 := n4_
                              have HK := n5_
                              have HB := n6_
                              clear n0_ n1_ n2_ n4_ n5_ n6_
                              clear hb ho36
                              obtain ⟨Ao37, co37, eo37⟩ := Kd.R_slice HO128.out
                              subst eo37
                              obtain ⟨ado37, fo37, _⟩ := Kd.at_int (Kd.R_reads' HO128.out).2.2 0 (by decide) (by rw [Ny126.out]; simp)
                              cases fo37
                              refine hK.out _ _ ⟨.slice (some ado37) y126.length co37, ado37, v133, adz_v133, m6_, m11_, (by rw [ha.out]; exact putSel_upk 2 hb_ rfl rfl rfl), (by (with_reducible repeat (first | apply Kd.R_alloc | apply Kd.R_drewN | apply Kd.R_drew)); exact Kd.R_mono HO116.out (fun _ hk => by first | grind | (simp only [true_and, and_assoc] at hk ⊢; grind))), (by (with_reducible repeat (first | apply Kd.R_alloc | apply Kd.R_drewN | apply Kd.R_drew)); exact Kd.R_mono HO119.out (fun _ hk => by first | grind | (simp only [true_and, and_assoc] at hk ⊢; grind))), (by (with_reducible repeat (first | refine blk_drewN ?_ _ | refine blk_drew ?_ | refine blk_alloc ?_ _)); exact BK109.out), z_HI0, (by repeat (first | (with_reducible first | exact HK.out | apply KeepBut.set_ | apply keep_drewN | apply keep_drew | apply keep_alloc | refine keep_far ?_ GW109.out _) | exact HK.out)), (by repeat (first | (with_reducible first | exact HB.out | apply below_alloc | apply pw_below_drewN | apply below_drew1 | refine below_set ?_ GE109.out) | exact HB.out)), z_HI0_e1, fun _ => (by (with_reducible repeat (first | apply Kd.R_alloc | apply Kd.R_drewN | apply Kd.R_drew)); exact Kd.R_mono HO128.out (fun _ hk => by first | grind | (simp only [true_and, and_assoc] at hk ⊢; grind))), fun _ => ⟨_, rfl⟩, z_HI0_e5, fun h0_ => absurd ((hoff 8 (by kernel_rfl)).symm.trans h0_) (by decide), fun h0_ => absurd ((hoff 8 (by kernel_rfl)).symm.trans h0_) (by decide), z_HI0_e10, fun h0_ => absurd ((hoff 6 (by kernel_rfl)).symm.trans h0_) (by decide), fun h0_ => absurd ((hoff 11 (by kernel_rfl)).symm.trans h0_) (by decide)⟩
                            refine steps_cons ?_ ?_
                            · rintro b a w' ⟨v127, adz_v127, v133, adz_v133, m6_, m11_, ha, Q_HO116, Q_HO119, Q_BK109, Q_HI0, Q_HK, Q_HB, Q_HI0_e1, Q_HO128, Q_HA_HO128, Q_HI0_e5, Q_HO134, Q_HA_HO134, Q_HI0_e10, Q_X6_, Q_X11_⟩ hb_ hon hoff
                              refine ⟨_, rfl, fun K hK => ?_⟩
                              have e27 : a.tmps[27]? = some (.pointer (some ⟨g, 0, none⟩)) := by rw [ha]; exact (putSel_off rfl).trans rfl
                              replace ha := Aside0.mk ha
                              have HO116 := Aside0.mk Q_HO116
                              have HO119 := Aside0.mk Q_HO119
                              have BK109 := Aside0.mk Q_BK109
                              have HK := Aside0.mk Q_HK
                              have HB := Aside0.mk Q_HB
                              have HI0 := Aside0.mk (Q_HI0_e1 (hon 1 (by kernel_rfl)) hb_)
                              refine goes_ Try.func30 (by kernel_rfl) rfl #[.pointer (some ⟨g, 0, none⟩), .int .i64 6] (by rfl) rfl rfl (by first | (simp only [List.map_toArray, List.map_cons, List.map_nil, Act.eval, Array.getD_eq_getD_getElem?, Option.getD_some, e27]; done) | (simp only [List.map_toArray, List.map_cons, List.map_nil, Act.eval, Array.getD_eq_getD_getElem?, Option.getD_some, e27]; rfl)) ?_
                              with_reducible refine (spec_l20Rd_pick.calls k g s0_0 t125 6 t129 t130 w0 _ ?side1 ?side2 A11.out).mono ?_
                              (case side1 => repeat (first | (with_reducible first | exact HI0.out | apply IsS50.alloc | apply IsS50.drewN | apply IsS50.drew | apply IsS50.set_1 | refine IsS50.far ?_ NB0_109.out _) | exact HI0.out))
                              (case side2 => repeat (first | (with_reducible first | exact HB.out | apply below_alloc | apply pw_below_drewN | apply below_drew1 | refine below_set ?_ (IsS50.ge HI0.out) | refine below_set ?_ GE109.out) | exact HB.out))
                              rintro e w37 ⟨rfl, hi, hb, hk⟩
                              refine ⟨_, rfl, ?_⟩
                              have n0_ := Aside0.mk (KeepBut.blk hk (g' := gb109) (o := .cells #[.int .i64 0, .int .i64 0] 24 (0, 0)) (by (with_reducible repeat (first | refine blk_drewN ?_ _ | refine blk_drew ?_ | refine blk_alloc ?_ _)); exact BK109.out) NB109_0.out (by simp))
                              have n1_ := Aside0.mk (Kd.R_mono (Kd.R_keep (IsS50.apart (show IsS50 w0 _ g s0_0 t125 from by repeat (first | (with_reducible first | exact HI0.out | apply IsS50.alloc | apply IsS50.drewN | apply IsS50.drew | apply IsS50.set_1 | refine IsS50.far ?_ NB0_109.out _) | exact HI0.out)) (by (with_reducible repeat (first | apply Kd.R_alloc | apply Kd.R_drewN | apply Kd.R_drew)); exact HO116.out) (by decide)) hk (fun _ h => h.2)) (fun _ h => h.1))
                              have n2_ := Aside0.mk (Kd.R_mono (Kd.R_keep (IsS50.apart (show IsS50 w0 _ g s0_0 t125 from by repeat (first | (with_reducible first | exact HI0.out | apply IsS50.alloc | apply IsS50.drewN | apply IsS50.drew | apply IsS50.set_1 | refine IsS50.far ?_ NB0_109.out _) | exact HI0.out)) (by (with_reducible repeat (first | apply Kd.R_alloc | apply Kd.R_drewN | apply Kd.R_drew)); exact HO119.out) (by decide)) hk (fun _ h => h.2)) (fun _ h => h.1))
                              have n3_ := Aside0.mk (KeepBut.trans (by repeat (first | (with_reducible first | exact HK.out | apply KeepBut.set_ | apply keep_drewN | apply keep_drew | apply keep_alloc | refine keep_far ?_ GW109.out _) | exact HK.out)) hk (.inl rfl))
                              have n4_ := Aside0.mk (hb)
                              have n5_ := Aside0.mk (hi)
                              have z_HO128 := fun (h0_ : b 3 = true) => (show Kd.R (Kd.int .i64) 3 w37 w.heap.size (fun k_ => some k_ ≠ (.slice (some ad123) y114.length co33 : Value).ownBlock ∧ some k_ ≠ (.slice (some ad122) y117.length co32 : Value).ownBlock) v127 y126 from by first | exact (Kd.R_mono (Kd.R_keep (IsS50.apart (show IsS50 w0 _ g s0_0 t125 from by repeat (first | (with_reducible first | exact HI0.out | apply IsS50.alloc | apply IsS50.drewN | apply IsS50.drew | apply IsS50.set_1 | refine IsS50.far ?_ NB0_109.out _) | exact HI0.out)) (by (with_reducible repeat (first | apply Kd.R_alloc | apply Kd.R_drewN | apply Kd.R_drew)); exact (Q_HO128 h0_)) (by decide)) hk (fun _ h => h.2)) (fun _ h => h.1)) | exact Kd.R_mono (Kd.R_mono (Kd.R_keep (IsS50.apart (show IsS50 w0 _ g s0_0 t125 from by repeat (first | (with_reducible first | exact HI0.out | apply IsS50.alloc | apply IsS50.drewN | apply IsS50.drew | apply IsS50.set_1 | refine IsS50.far ?_ NB0_109.out _) | exact HI0.out)) (by (with_reducible repeat (first | apply Kd.R_alloc | apply Kd.R_drewN | apply Kd.R_drew)); exact (Q_HO128 h0_)) (by decide)) hk (fun _ h => h.2)) (fun _ h => h.1)) (fun _ h_ => by first | trivial | exact h_ | exact h_.1))
                              clear BK109
                              clear HO116
                              clear HO119
                              clear HK
                              clear HB
                              clear HI0
                              have BK109 := n0_
                              have HO116 := n1_
                              have HO119 := n2_
                              have HK := n3_
                              have HB := n4_
                              have HI0 := n5_
                              clear n0_ n1_ n2_ n3_ n4_ n5_
                              (try clear hb)
                              (try clear hb2)
                              (try clear hk)
                              (try clear hi)
                              refine hK.out _ _ ⟨v127, adz_v127, v133, adz_v133, m6_, m11_, (by rw [ha.out]; exact putSel_upk 3 hb_ rfl rfl rfl), (by (with_reducible repeat (first | apply Kd.R_alloc | apply Kd.R_drewN | apply Kd.R_drew)); exact HO116.out), (by (with_reducible repeat (first | apply Kd.R_alloc | apply Kd.R_drewN | apply Kd.R_drew)); exact HO119.out), (by (with_reducible repeat (first | refine blk_drewN ?_ _ | refine blk_drew ?_ | refine blk_alloc ?_ _)); exact BK109.out), fun h0_ => absurd ((hon 1 (by kernel_rfl)).symm.trans h0_) (by decide), (by repeat (first | (with_reducible first | exact HK.out | apply KeepBut.set_ | apply keep_drewN | apply keep_drew | apply keep_alloc | refine keep_far ?_ GW109.out _) | exact HK.out)), (by repeat (first | (with_reducible first | exact HB.out | apply below_alloc | apply pw_below_drewN | apply below_drew1 | refine below_set ?_ (IsS50.ge HI0.out) | refine below_set ?_ GE109.out) | exact HB.out)), fun _ h1_ => absurd ((up_self b 5).symm.trans h1_) (by decide), z_HO128, Q_HA_HO128, fun _ _ => (by repeat (first | (with_reducible first | exact HI0.out | apply IsS50.alloc | apply IsS50.drewN | apply IsS50.drew | apply IsS50.set_1 | refine IsS50.far ?_ NB0_109.out _) | exact HI0.out)), fun h0_ => absurd ((hoff 8 (by kernel_rfl)).symm.trans h0_) (by decide), fun h0_ => absurd ((hoff 8 (by kernel_rfl)).symm.trans h0_) (by decide), fun h0_ => absurd ((hoff 10 (by kernel_rfl)).symm.trans h0_) (by decide), fun h0_ => absurd ((hoff 6 (by kernel_rfl)).symm.trans h0_) (by decide), fun h0_ => absurd ((hoff 11 (by kernel_rfl)).symm.trans h0_) (by decide)⟩
                            refine steps_cons ?_ ?_
                            · rintro b a w' ⟨v127, adz_v127, v133, adz_v133, m6_, m11_, ha, Q_HO116, Q_HO119, Q_BK109, Q_HI0, Q_HK, Q_HB, Q_HI0_e1, Q_HO128, Q_HA_HO128, Q_HI0_e5, Q_HO134, Q_HA_HO134, Q_HI0_e10, Q_X6_, Q_X11_⟩ hb_ hon hoff
                              refine ⟨_, rfl, fun K hK => ?_⟩
                              have e26 : a.tmps[26]? = some (v127) := by rw [ha]; exact putSel_on (e := (3, 26, v127)) 2 rfl rfl (hon 3 (by kernel_rfl)) rfl
                              have e28 : a.tmps[28]? = some (.int .i64 t129) := by rw [ha]; exact putSel_on (e := (5, 28, .int .i64 t129)) 3 rfl rfl (hon 5 (by kernel_rfl)) rfl
                              replace ha := Aside0.mk ha
                              have HO116 := Aside0.mk Q_HO116
                              have HO119 := Aside0.mk Q_HO119
                              have BK109 := Aside0.mk Q_BK109
                              have HK := Aside0.mk Q_HK
                              have HB := Aside0.mk Q_HB
                              have HO128 := Aside0.mk (Q_HO128 (hon 3 (by kernel_rfl)))
                              have HA_HO128 := Aside0.mk (Q_HA_HO128 (hon 3 (by kernel_rfl)))
                              obtain ⟨c_, hv_⟩ := HA_HO128.out
                              rw [hv_] at e26
                              refine value_ (w1 := w') (v := .pointer (some (adz_v127.add (t129).toNat))) (by rfl) rfl ?_ ?_
                              · go_simp
                                (try simp only [i64_w])
                                try rfl
                              refine hK.out _ _ ⟨v127, adz_v127, v133, adz_v133, (.pointer (some (adz_v127.add (t129).toNat))), m11_, (by rw [ha.out]; exact putSel_upk 4 hb_ rfl rfl rfl), Q_HO116, Q_HO119, Q_BK109, fun h0_ => absurd ((hon 1 (by kernel_rfl)).symm.trans h0_) (by decide), Q_HK, Q_HB, fun _ h1_ => absurd ((hon 5 (by kernel_rfl)).symm.trans h1_) (by decide), Q_HO128, Q_HA_HO128, Q_HI0_e5, fun h0_ => absurd ((hoff 8 (by kernel_rfl)).symm.trans h0_) (by decide), fun h0_ => absurd ((hoff 8 (by kernel_rfl)).symm.trans h0_) (by decide), Q_HI0_e10, fun _ => rfl, fun h0_ => absurd ((hoff 11 (by kernel_rfl)).symm.trans h0_) (by decide)⟩
                            refine steps_cons ?_ ?_
                            · rintro b a w' ⟨v127, adz_v127, v133, adz_v133, m6_, m11_, ha, Q_HO116, Q_HO119, Q_BK109, Q_HI0, Q_HK, Q_HB, Q_HI0_e1, Q_HO128, Q_HA_HO128, Q_HI0_e5, Q_HO134, Q_HA_HO134, Q_HI0_e10, Q_X6_, Q_X11_⟩ hb_ hon hoff
                              refine ⟨_, rfl, fun K hK => ?_⟩
                              have e29 : a.tmps[29]? = some (m6_) := by rw [ha]; exact putSel_on (e := (6, 29, m6_)) 4 rfl rfl (hon 6 (by kernel_rfl)) rfl
                              rw [Q_X6_ (hon 6 (by kernel_rfl))] at e29
                              replace ha := Aside0.mk ha
                              have HO116 := Aside0.mk Q_HO116
                              have HO119 := Aside0.mk Q_HO119
                              have BK109 := Aside0.mk Q_BK109
                              have HK := Aside0.mk Q_HK
                              have HB := Aside0.mk Q_HB
                              have HO128 := Aside0.mk (Q_HO128 (hon 3 (by kernel_rfl)))
                              have HA_HO128 := Aside0.mk (Q_HA_HO128 (hon 3 (by kernel_rfl)))
                              obtain ⟨c_, hv_⟩ := HA_HO128.out
                              have hF_ := HO128.out
                              rw [hv_] at hF_
                              obtain ⟨ad_, ea_, hx_⟩ := Kd.at_int (Kd.R_reads' hF_).2.2 t129 (of_eq_true pi131) (of_eq_true qi131)
                              cases ea_
                              refine value_ (w1 := w') (v := .int .i64 (rd y126 t129)) (by rfl) rfl ?_ ?_
                              · go_simp
                                (try simp only [i64_w])
                                try rfl
                              refine hK.out _ _ ⟨v127, adz_v127, v133, adz_v133, m6_, m11_, (by rw [ha.out]; exact putSel_upk 5 hb_ rfl rfl rfl), Q_HO116, Q_HO119, Q_BK109, fun h0_ => absurd ((hon 1 (by kernel_rfl)).symm.trans h0_) (by decide), Q_HK, Q_HB, fun _ h1_ => absurd ((hon 5 (by kernel_rfl)).symm.trans h1_) (by decide), Q_HO128, Q_HA_HO128, Q_HI0_e5, fun h0_ => absurd ((hoff 8 (by kernel_rfl)).symm.trans h0_) (by decide), fun h0_ => absurd ((hoff 8 (by kernel_rfl)).symm.trans h0_) (by decide), Q_HI0_e10, Q_X6_, fun h0_ => absurd ((hoff 11 (by kernel_rfl)).symm.trans h0_) (by decide)⟩
                            refine steps_cons ?_ ?_
                            · rintro b a w' ⟨v127, adz_v127, v133, adz_v133, m6_, m11_, ha, Q_HO116, Q_HO119, Q_BK109, Q_HI0, Q_HK, Q_HB, Q_HI0_e1, Q_HO128, Q_HA_HO128, Q_HI0_e5, Q_HO134, Q_HA_HO134, Q_HI0_e10, Q_X6_, Q_X11_⟩ hb_ hon hoff
                              refine ⟨_, rfl, fun K hK => ?_⟩
                              have e25 : a.tmps[25]? = some (.int .i64 (wrap64 (1 + t124))) := by rw [ha]; exact putSel_on (e := (2, 25, .int .i64 (wrap64 (1 + t124)))) 1 rfl rfl (hon 2 (by kernel_rfl)) rfl
                              have e30 : a.tmps[30]? = some (.int .i64 (rd y126 t129)) := by rw [ha]; exact putSel_on (e := (7, 30, .int .i64 (rd y126 t129))) 5 rfl rfl (hon 7 (by kernel_rfl)) rfl
                              replace ha := Aside0.mk ha
                              have HO116 := Aside0.mk Q_HO116
                              have HO119 := Aside0.mk Q_HO119
                              have BK109 := Aside0.mk Q_BK109
                              have HK := Aside0.mk Q_HK
                              have HB := Aside0.mk Q_HB
                              have HO128 := Aside0.mk (Q_HO128 (hon 3 (by kernel_rfl)))
                              have HA_HO128 := Aside0.mk (Q_HA_HO128 (hon 3 (by kernel_rfl)))
                              obtain ⟨co41, eo41⟩ := HA_HO128.out
                              clear HA_HO128
                              subst eo41
                              refine Kd.R_lit_step (Kd.int .i64) _ 3 ?hg (N := 31) ?hd (xs := ([1, wrap64 (1 + t124), rd y126 t129, 3] : List Int)) (inner := [.int .i64 1, .int .i64 (wrap64 (1 + t124)), .int .i64 (rd y126 t129), .int .i64 3]) (ok := fun _ => True) (okp := fun _ => True) ?hr ?hp (fun _ hk => hk) trivial (Below.refl _ _) (Nat.le_refl _) (by simp) ?_; (case hd => rfl); (case hg => rfl); (case hr => first | (go_simp; done) | (go_simp; rfl)); (case hp => exact (Reps.one (show Kd.M (Kd.int .i64) _ _ _ 1 [.int .i64 1] from rfl) (Reps.one (show Kd.M (Kd.int .i64) _ _ _ (wrap64 (1 + t124)) [.int .i64 (wrap64 (1 + t124))] from rfl) (Reps.one (show Kd.M (Kd.int .i64) _ _ _ (rd y126 t129) [.int .i64 (rd y126 t129)] from rfl) (Reps.one (show Kd.M (Kd.int .i64) _ _ _ 3 [.int .i64 3] from rfl) (Reps.none _ _))))))
                              intro v133 w42 ho43 hb hg_ hnew_
                              clear hg_ hnew_
                              (first | rw [← Ny132.out] at ho43 | (simp only [Int.reduceToNat] at ho43; rw [← Ny132.out] at ho43))
                              have n0_ := Aside0.mk (Kd.R_elder' (by (with_reducible repeat (first | apply Kd.R_alloc | apply Kd.R_drewN | apply Kd.R_drew)); exact HO116.out) (Kd.R_base ho43) hb)
                              have n1_ := Aside0.mk (Kd.R_elder' (by (with_reducible repeat (first | apply Kd.R_alloc | apply Kd.R_drewN | apply Kd.R_drew)); exact HO119.out) (Kd.R_base ho43) hb)
                              have n2_ := Aside0.mk (Kd.R_elder' (by (with_reducible repeat (first | apply Kd.R_alloc | apply Kd.R_drewN | apply Kd.R_drew)); exact HO128.out) (Kd.R_base ho43) hb)
                              have n3_ := Aside0.mk (Kd.R_lower (Kd.R_new' (Kd.R_new' (Kd.R_new' ho43 (Kd.R_lt (by (with_reducible repeat (first | apply Kd.R_alloc | apply Kd.R_drewN | apply Kd.R_drew)); exact HO116.out))) (Kd.R_lt (by (with_reducible repeat (first | apply Kd.R_alloc | apply Kd.R_drewN | apply Kd.R_drew)); exact HO119.out))) (Kd.R_lt (by (with_reducible repeat (first | apply Kd.R_alloc | apply Kd.R_drewN | apply Kd.R_drew)); exact HO128.out))) (keep_size (w := w) (g := g) (row := none) (by repeat (first | (with_reducible first | exact HK.out | apply KeepBut.set_ | apply keep_drewN | apply keep_drew | apply keep_alloc | refine keep_far ?_ GW109.out _) | exact HK.out))))
                              have n5_ := Aside0.mk (blk_below (g := gb109) (o := .cells #[.int .i64 0, .int .i64 0] 24 (0, 0)) (by (with_reducible repeat (first | refine blk_drewN ?_ _ | refine blk_drew ?_ | refine blk_alloc ?_ _)); exact BK109.out) hb)
                              have n6_ := Aside0.mk (KeepBut.trans (by repeat (first | (with_reducible first | exact HK.out | apply KeepBut.set_ | apply keep_drewN | apply keep_drew | apply keep_alloc | refine keep_far ?_ GW109.out _) | exact HK.out)) (KeepBut.of_below hb g none) (.inl rfl))
                              have n7_ := Aside0.mk (below_step (by repeat (first | (with_reducible first | exact HB.out | apply below_alloc | apply pw_below_drewN | apply below_drew1 | refine below_set ?_ GE109.out) | exact HB.out)) hb)
                              have z_HI0_e5 := fun (h0_ : b 5 = true) (h1_ : b 10 = false) => (show IsS50 w0 w42 g s0_0 t130 from by first | exact (IsS50.below (by repeat (first | (with_reducible first | exact (Q_HI0_e5 h0_ h1_) | apply IsS50.alloc | apply IsS50.drewN | apply IsS50.drew | apply IsS50.set_1 | refine IsS50.far ?_ NB0_109.out _) | exact (Q_HI0_e5 h0_ h1_))) hb))
                              have z_HI0_e10 := fun (h0_ : b 10 = true) => (show IsS50 w0 w42 g s0_0 t136 from by first | exact (IsS50.below (by repeat (first | (with_reducible first | exact (Q_HI0_e10 h0_) | apply IsS50.alloc | apply IsS50.drewN | apply IsS50.drew | apply IsS50.set_1 | refine IsS50.far ?_ NB0_109.out _) | exact (Q_HI0_e10 h0_))) hb))
                              clear HO116
                              clear HO119
                              clear HO128
                              clear BK109
                              clear HK
                              clear HB
                              have HO116 := n0_
                              have HO119 := n1_
                              have HO128 := n2_
                              have HO134 := n3_
                              have BK109 := n5_
                              have HK := n6_
                              have HB := n7_
                              clear n0_ n1_ n2_ n3_ n5_ n6_ n7_
                              clear hb ho43
                              obtain ⟨Ao44, co44, eo44⟩ := Kd.R_slice HO134.out
                              subst eo44
                              obtain ⟨ado44, fo44, _⟩ := Kd.at_int (Kd.R_reads' HO134.out).2.2 0 (by decide) (by rw [Ny132.out]; simp)
                              cases fo44
                              refine hK.out _ _ ⟨.slice (some adz_v127) y126.length co41, adz_v127, .slice (some ado44) y132.length co44, ado44, m6_, m11_, (by rw [ha.out]; exact putSel_upk 6 hb_ rfl rfl rfl), (by (with_reducible repeat (first | apply Kd.R_alloc | apply Kd.R_drewN | apply Kd.R_drew)); exact Kd.R_mono HO116.out (fun _ hk => by first | grind | (simp only [true_and, and_assoc] at hk ⊢; grind))), (by (with_reducible repeat (first | apply Kd.R_alloc | apply Kd.R_drewN | apply Kd.R_drew)); exact Kd.R_mono HO119.out (fun _ hk => by first | grind | (simp only [true_and, and_assoc] at hk ⊢; grind))), (by (with_reducible repeat (first | refine blk_drewN ?_ _ | refine blk_drew ?_ | refine blk_alloc ?_ _)); exact BK109.out), fun h0_ => absurd ((hon 1 (by kernel_rfl)).symm.trans h0_) (by decide), (by repeat (first | (with_reducible first | exact HK.out | apply KeepBut.set_ | apply keep_drewN | apply keep_drew | apply keep_alloc | refine keep_far ?_ GW109.out _) | exact HK.out)), (by repeat (first | (with_reducible first | exact HB.out | apply below_alloc | apply pw_below_drewN | apply below_drew1 | refine below_set ?_ GE109.out) | exact HB.out)), fun _ h1_ => absurd ((hon 5 (by kernel_rfl)).symm.trans h1_) (by decide), fun _ => (by (with_reducible repeat (first | apply Kd.R_alloc | apply Kd.R_drewN | apply Kd.R_drew)); exact Kd.R_mono HO128.out (fun _ hk => by first | grind | (simp only [true_and, and_assoc] at hk ⊢; grind))), fun _ => ⟨_, rfl⟩, z_HI0_e5, fun _ => (by (with_reducible repeat (first | apply Kd.R_alloc | apply Kd.R_drewN | apply Kd.R_drew)); exact Kd.R_mono HO134.out (fun _ hk => by first | grind | (simp only [true_and, and_assoc] at hk ⊢; grind))), fun _ => ⟨_, rfl⟩, z_HI0_e10, Q_X6_, fun h0_ => absurd ((hoff 11 (by kernel_rfl)).symm.trans h0_) (by decide)⟩
                            refine steps_cons ?_ ?_
                            · rintro b a w' ⟨v127, adz_v127, v133, adz_v133, m6_, m11_, ha, Q_HO116, Q_HO119, Q_BK109, Q_HI0, Q_HK, Q_HB, Q_HI0_e1, Q_HO128, Q_HA_HO128, Q_HI0_e5, Q_HO134, Q_HA_HO134, Q_HI0_e10, Q_X6_, Q_X11_⟩ hb_ hon hoff
                              refine ⟨_, rfl, fun K hK => ?_⟩
                              have e32 : a.tmps[32]? = some (.pointer (some ⟨g, 0, none⟩)) := by rw [ha]; exact (putSel_off rfl).trans rfl
                              replace ha := Aside0.mk ha
                              have HO116 := Aside0.mk Q_HO116
                              have HO119 := Aside0.mk Q_HO119
                              have BK109 := Aside0.mk Q_BK109
                              have HK := Aside0.mk Q_HK
                              have HB := Aside0.mk Q_HB
                              have HI0 := Aside0.mk (Q_HI0_e5 (hon 5 (by kernel_rfl)) hb_)
                              refine goes_ Try.func30 (by kernel_rfl) rfl #[.pointer (some ⟨g, 0, none⟩), .int .i64 4] (by rfl) rfl rfl (by first | (simp only [List.map_toArray, List.map_cons, List.map_nil, Act.eval, Array.getD_eq_getD_getElem?, Option.getD_some, e32]; done) | (simp only [List.map_toArray, List.map_cons, List.map_nil, Act.eval, Array.getD_eq_getD_getElem?, Option.getD_some, e32]; rfl)) ?_
                              with_reducible refine (spec_l20Rd_pick.calls k g s0_0 t130 4 t135 t136 w0 _ ?side1 ?side2 A14.out).mono ?_
                              (case side1 => repeat (first | (with_reducible first | exact HI0.out | apply IsS50.alloc | apply IsS50.drewN | apply IsS50.drew | apply IsS50.set_1 | refine IsS50.far ?_ NB0_109.out _) | exact HI0.out))
                              (case side2 => repeat (first | (with_reducible first | exact HB.out | apply below_alloc | apply pw_below_drewN | apply below_drew1 | refine below_set ?_ (IsS50.ge HI0.out) | refine below_set ?_ GE109.out) | exact HB.out))
                              rintro e w38 ⟨rfl, hi, hb, hk⟩
                              refine ⟨_, rfl, ?_⟩
                              have n0_ := Aside0.mk (KeepBut.blk hk (g' := gb109) (o := .cells #[.int .i64 0, .int .i64 0] 24 (0, 0)) (by (with_reducible repeat (first | refine blk_drewN ?_ _ | refine blk_drew ?_ | refine blk_alloc ?_ _)); exact BK109.out) NB109_0.out (by simp))
                              have n1_ := Aside0.mk (Kd.R_mono (Kd.R_keep (IsS50.apart (show IsS50 w0 _ g s0_0 t130 from by repeat (first | (with_reducible first | exact HI0.out | apply IsS50.alloc | apply IsS50.drewN | apply IsS50.drew | apply IsS50.set_1 | refine IsS50.far ?_ NB0_109.out _) | exact HI0.out)) (by (with_reducible repeat (first | apply Kd.R_alloc | apply Kd.R_drewN | apply Kd.R_drew)); exact HO116.out) (by decide)) hk (fun _ h => h.2)) (fun _ h => h.1))
                              have n2_ := Aside0.mk (Kd.R_mono (Kd.R_keep (IsS50.apart (show IsS50 w0 _ g s0_0 t130 from by repeat (first | (with_reducible first | exact HI0.out | apply IsS50.alloc | apply IsS50.drewN | apply IsS50.drew | apply IsS50.set_1 | refine IsS50.far ?_ NB0_109.out _) | exact HI0.out)) (by (with_reducible repeat (first | apply Kd.R_alloc | apply Kd.R_drewN | apply Kd.R_drew)); exact HO119.out) (by decide)) hk (fun _ h => h.2)) (fun _ h => h.1))
                              have n3_ := Aside0.mk (KeepBut.trans (by repeat (first | (with_reducible first | exact HK.out | apply KeepBut.set_ | apply keep_drewN | apply keep_drew | apply keep_alloc | refine keep_far ?_ GW109.out _) | exact HK.out)) hk (.inl rfl))
                              have n4_ := Aside0.mk (hb)
                              have n5_ := Aside0.mk (hi)
                              have z_HO128 := fun (h0_ : b 3 = true) => (show Kd.R (Kd.int .i64) 3 w38 w.heap.size (fun k_ => some k_ ≠ (.slice (some ad123) y114.length co33 : Value).ownBlock ∧ some k_ ≠ (.slice (some ad122) y117.length co32 : Value).ownBlock) v127 y126 from by first | exact (Kd.R_mono (Kd.R_keep (IsS50.apart (show IsS50 w0 _ g s0_0 t130 from by repeat (first | (with_reducible first | exact HI0.out | apply IsS50.alloc | apply IsS50.drewN | apply IsS50.drew | apply IsS50.set_1 | refine IsS50.far ?_ NB0_109.out _) | exact HI0.out)) (by (with_reducible repeat (first | apply Kd.R_alloc | apply Kd.R_drewN | apply Kd.R_drew)); exact (Q_HO128 h0_)) (by decide)) hk (fun _ h => h.2)) (fun _ h => h.1)) | exact Kd.R_mono (Kd.R_mono (Kd.R_keep (IsS50.apart (show IsS50 w0 _ g s0_0 t130 from by repeat (first | (with_reducible first | exact HI0.out | apply IsS50.alloc | apply IsS50.drewN | apply IsS50.drew | apply IsS50.set_1 | refine IsS50.far ?_ NB0_109.out _) | exact HI0.out)) (by (with_reducible repeat (first | apply Kd.R_alloc | apply Kd.R_drewN | apply Kd.R_drew)); exact (Q_HO128 h0_)) (by decide)) hk (fun _ h => h.2)) (fun _ h => h.1)) (fun _ h_ => by first | trivial | exact h_ | exact h_.1))
                              have z_HO134 := fun (h0_ : b 8 = true) => (show Kd.R (Kd.int .i64) 3 w38 w.heap.size (fun k_ => some k_ ≠ (.slice (some ad123) y114.length co33 : Value).ownBlock ∧ some k_ ≠ (.slice (some ad122) y117.length co32 : Value).ownBlock) v133 y132 from by first | exact (Kd.R_mono (Kd.R_keep (IsS50.apart (show IsS50 w0 _ g s0_0 t130 from by repeat (first | (with_reducible first | exact HI0.out | apply IsS50.alloc | apply IsS50.drewN | apply IsS50.drew | apply IsS50.set_1 | refine IsS50.far ?_ NB0_109.out _) | exact HI0.out)) (by (with_reducible repeat (first | apply Kd.R_alloc | apply Kd.R_drewN | apply Kd.R_drew)); exact (Q_HO134 h0_)) (by decide)) hk (fun _ h => h.2)) (fun _ h => h.1)) | exact Kd.R_mono (Kd.R_mono (Kd.R_keep (IsS50.apart (show IsS50 w0 _ g s0_0 t130 from by repeat (first | (with_reducible first | exact HI0.out | apply IsS50.alloc | apply IsS50.drewN | apply IsS50.drew | apply IsS50.set_1 | refine IsS50.far ?_ NB0_109.out _) | exact HI0.out)) (by (with_reducible repeat (first | apply Kd.R_alloc | apply Kd.R_drewN | apply Kd.R_drew)); exact (Q_HO134 h0_)) (by decide)) hk (fun _ h => h.2)) (fun _ h => h.1)) (fun _ h_ => by first | trivial | exact h_ | exact h_.1))
                              clear BK109
                              clear HO116
                              clear HO119
                              clear HK
                              clear HB
                              clear HI0
                              have BK109 := n0_
                              have HO116 := n1_
                              have HO119 := n2_
                              have HK := n3_
                              have HB := n4_
                              have HI0 := n5_
                              clear n0_ n1_ n2_ n3_ n4_ n5_
                              (try clear hb)
                              (try clear hb2)
                              (try clear hk)
                              (try clear hi)
                              refine hK.out _ _ ⟨v127, adz_v127, v133, adz_v133, m6_, m11_, (by rw [ha.out]; exact putSel_upk 7 hb_ rfl rfl rfl), (by (with_reducible repeat (first | apply Kd.R_alloc | apply Kd.R_drewN | apply Kd.R_drew)); exact HO116.out), (by (with_reducible repeat (first | apply Kd.R_alloc | apply Kd.R_drewN | apply Kd.R_drew)); exact HO119.out), (by (with_reducible repeat (first | refine blk_drewN ?_ _ | refine blk_drew ?_ | refine blk_alloc ?_ _)); exact BK109.out), fun h0_ => absurd ((hon 1 (by kernel_rfl)).symm.trans h0_) (by decide), (by repeat (first | (with_reducible first | exact HK.out | apply KeepBut.set_ | apply keep_drewN | apply keep_drew | apply keep_alloc | refine keep_far ?_ GW109.out _) | exact HK.out)), (by repeat (first | (with_reducible first | exact HB.out | apply below_alloc | apply pw_below_drewN | apply below_drew1 | refine below_set ?_ (IsS50.ge HI0.out) | refine below_set ?_ GE109.out) | exact HB.out)), fun _ h1_ => absurd ((hon 5 (by kernel_rfl)).symm.trans h1_) (by decide), z_HO128, Q_HA_HO128, fun _ h1_ => absurd ((up_self b 10).symm.trans h1_) (by decide), z_HO134, Q_HA_HO134, fun _ => (by repeat (first | (with_reducible first | exact HI0.out | apply IsS50.alloc | apply IsS50.drewN | apply IsS50.drew | apply IsS50.set_1 | refine IsS50.far ?_ NB0_109.out _) | exact HI0.out)), Q_X6_, fun h0_ => absurd ((hoff 11 (by kernel_rfl)).symm.trans h0_) (by decide)⟩
                            refine steps_cons ?_ ?_
                            · rintro b a w' ⟨v127, adz_v127, v133, adz_v133, m6_, m11_, ha, Q_HO116, Q_HO119, Q_BK109, Q_HI0, Q_HK, Q_HB, Q_HI0_e1, Q_HO128, Q_HA_HO128, Q_HI0_e5, Q_HO134, Q_HA_HO134, Q_HI0_e10, Q_X6_, Q_X11_⟩ hb_ hon hoff
                              refine ⟨_, rfl, fun K hK => ?_⟩
                              have e31 : a.tmps[31]? = some (v133) := by rw [ha]; exact putSel_on (e := (8, 31, v133)) 6 rfl rfl (hon 8 (by kernel_rfl)) rfl
                              have e33 : a.tmps[33]? = some (.int .i64 t135) := by rw [ha]; exact putSel_on (e := (10, 33, .int .i64 t135)) 7 rfl rfl (hon 10 (by kernel_rfl)) rfl
                              replace ha := Aside0.mk ha
                              have HO116 := Aside0.mk Q_HO116
                              have HO119 := Aside0.mk Q_HO119
                              have BK109 := Aside0.mk Q_BK109
                              have HK := Aside0.mk Q_HK
                              have HB := Aside0.mk Q_HB
                              have HO128 := Aside0.mk (Q_HO128 (hon 3 (by kernel_rfl)))
                              have HA_HO128 := Aside0.mk (Q_HA_HO128 (hon 3 (by kernel_rfl)))
                              have HO134 := Aside0.mk (Q_HO134 (hon 8 (by kernel_rfl)))
                              have HA_HO134 := Aside0.mk (Q_HA_HO134 (hon 8 (by kernel_rfl)))
                              have HI0 := Aside0.mk (Q_HI0_e10 (hon 10 (by kernel_rfl)))
                              obtain ⟨c_, hv_⟩ := HA_HO134.out
                              rw [hv_] at e31
                              refine value_ (w1 := w') (v := .pointer (some (adz_v133.add (t135).toNat))) (by rfl) rfl ?_ ?_
                              · go_simp
                                (try simp only [i64_w])
                                try rfl
                              refine hK.out _ _ ⟨v127, adz_v127, v133, adz_v133, m6_, (.pointer (some (adz_v133.add (t135).toNat))), (by rw [ha.out]; exact putSel_upk 8 hb_ rfl rfl rfl), Q_HO116, Q_HO119, Q_BK109, fun h0_ => absurd ((hon 1 (by kernel_rfl)).symm.trans h0_) (by decide), Q_HK, Q_HB, fun _ h1_ => absurd ((hon 5 (by kernel_rfl)).symm.trans h1_) (by decide), Q_HO128, Q_HA_HO128, fun _ h1_ => absurd ((hon 10 (by kernel_rfl)).symm.trans h1_) (by decide), Q_HO134, Q_HA_HO134, Q_HI0_e10, Q_X6_, fun _ => rfl⟩
                            refine steps_cons ?_ ?_
                            · rintro b a w' ⟨v127, adz_v127, v133, adz_v133, m6_, m11_, ha, Q_HO116, Q_HO119, Q_BK109, Q_HI0, Q_HK, Q_HB, Q_HI0_e1, Q_HO128, Q_HA_HO128, Q_HI0_e5, Q_HO134, Q_HA_HO134, Q_HI0_e10, Q_X6_, Q_X11_⟩ hb_ hon hoff
                              refine ⟨_, rfl, fun K hK => ?_⟩
                              have e34 : a.tmps[34]? = some (m11_) := by rw [ha]; exact putSel_on (e := (11, 34, m11_)) 8 rfl rfl (hon 11 (by kernel_rfl)) rfl
                              rw [Q_X11_ (hon 11 (by kernel_rfl))] at e34
                              replace ha := Aside0.mk ha
                              have HO116 := Aside0.mk Q_HO116
                              have HO119 := Aside0.mk Q_HO119
                              have BK109 := Aside0.mk Q_BK109
                              have HK := Aside0.mk Q_HK
                              have HB := Aside0.mk Q_HB
                              have HO128 := Aside0.mk (Q_HO128 (hon 3 (by kernel_rfl)))
                              have HA_HO128 := Aside0.mk (Q_HA_HO128 (hon 3 (by kernel_rfl)))
                              have HO134 := Aside0.mk (Q_HO134 (hon 8 (by kernel_rfl)))
                              have HA_HO134 := Aside0.mk (Q_HA_HO134 (hon 8 (by kernel_rfl)))
                              have HI0 := Aside0.mk (Q_HI0_e10 (hon 10 (by kernel_rfl)))
                              obtain ⟨c_, hv_⟩ := HA_HO134.out
                              have hF_ := HO134.out
                              rw [hv_] at hF_
                              obtain ⟨ad_, ea_, hx_⟩ := Kd.at_int (Kd.R_reads' hF_).2.2 t135 (of_eq_true pi137) (of_eq_true qi137)
                              cases ea_
                              refine value_ (w1 := w') (v := .int .i64 (rd y132 t135)) (by rfl) rfl ?_ ?_
                              · go_simp
                                (try simp only [i64_w])
                                try rfl
                              refine hK.out _ _ ⟨v127, adz_v127, v133, adz_v133, m6_, m11_, (by rw [ha.out]; exact putSel_upk 9 hb_ rfl rfl rfl), Q_HO116, Q_HO119, Q_BK109, fun h0_ => absurd ((hon 1 (by kernel_rfl)).symm.trans h0_) (by decide), Q_HK, Q_HB, fun _ h1_ => absurd ((hon 5 (by kernel_rfl)).symm.trans h1_) (by decide), Q_HO128, Q_HA_HO128, fun _ h1_ => absurd ((hon 10 (by kernel_rfl)).symm.trans h1_) (by decide), Q_HO134, Q_HA_HO134, Q_HI0_e10, Q_X6_, Q_X11_⟩
                            refine steps_cons ?_ ?_
                            · rintro b a w' ⟨v127, adz_v127, v133, adz_v133, m6_, m11_, ha, Q_HO116, Q_HO119, Q_BK109, Q_HI0, Q_HK, Q_HB, Q_HI0_e1, Q_HO128, Q_HA_HO128, Q_HI0_e5, Q_HO134, Q_HA_HO134, Q_HI0_e10, Q_X6_, Q_X11_⟩ hb_ hon hoff
                              refine ⟨_, rfl, fun K hK => ?_⟩
                              have e35 : a.tmps[35]? = some (.int .i64 (rd y132 t135)) := by rw [ha]; exact putSel_on (e := (12, 35, .int .i64 (rd y132 t135))) 9 rfl rfl (hon 12 (by kernel_rfl)) rfl
                              replace ha := Aside0.mk ha
                              have HO116 := Aside0.mk Q_HO116
                              have HO119 := Aside0.mk Q_HO119
                              have BK109 := Aside0.mk Q_BK109
                              have HK := Aside0.mk Q_HK
                              have HB := Aside0.mk Q_HB
                              have HO128 := Aside0.mk (Q_HO128 (hon 3 (by kernel_rfl)))
                              have HA_HO128 := Aside0.mk (Q_HA_HO128 (hon 3 (by kernel_rfl)))
                              have HO134 := Aside0.mk (Q_HO134 (hon 8 (by kernel_rfl)))
                              have HA_HO134 := Aside0.mk (Q_HA_HO134 (hon 8 (by kernel_rfl)))
                              have HI0 := Aside0.mk (Q_HI0_e10 (hon 10 (by kernel_rfl)))
                              refine value_ (w1 := w') (v := .int .i64 (rd y132 t135)) (by rfl) rfl ?_ ?_
                              · go_simp
                                (try simp only [i64_w])
                                try rfl
                              refine hK.out _ _ ⟨v127, adz_v127, v133, adz_v133, m6_, m11_, (by rw [ha.out]; exact putSel_upk 10 hb_ rfl rfl rfl), Q_HO116, Q_HO119, Q_BK109, fun h0_ => absurd ((hon 1 (by kernel_rfl)).symm.trans h0_) (by decide), Q_HK, Q_HB, fun _ h1_ => absurd ((hon 5 (by kernel_rfl)).symm.trans h1_) (by decide), Q_HO128, Q_HA_HO128, fun _ h1_ => absurd ((hon 10 (by kernel_rfl)).symm.trans h1_) (by decide), Q_HO134, Q_HA_HO134, Q_HI0_e10, Q_X6_, Q_X11_⟩
                            exact steps_nil
                          rintro b a w44 hall ⟨v127, adz_v127, v133, adz_v133, m6_, m11_, ha, Q_HO116, Q_HO119, Q_BK109, Q_HI0, Q_HK, Q_HB, Q_HI0_e1, Q_HO128, Q_HA_HO128, Q_HI0_e5, Q_HO134, Q_HA_HO134, Q_HI0_e10, Q_X6_, Q_X11_⟩
                          clear BK109 HB HI0 HK HO116 HO119
                          have hb1_ := hall 1 (by kernel_rfl)
                          have hb2_ := hall 2 (by kernel_rfl)
                          have hb3_ := hall 3 (by kernel_rfl)
                          have hb5_ := hall 5 (by kernel_rfl)
                          have hb6_ := hall 6 (by kernel_rfl)
                          have hb7_ := hall 7 (by kernel_rfl)
                          have hb8_ := hall 8 (by kernel_rfl)
                          have hb10_ := hall 10 (by kernel_rfl)
                          have hb11_ := hall 11 (by kernel_rfl)
                          have hb12_ := hall 12 (by kernel_rfl)
                          have hb13_ := hall 13 (by kernel_rfl)
                          subst ha
                          obtain rfl := Q_X6_ hb6_
                          obtain rfl := Q_X11_ hb11_
                          simp only [putSel, hb1_, hb2_, hb3_, hb5_, hb6_, hb7_, hb8_, hb10_, hb11_, hb12_, hb13_, if_true, Act.put, List.setIfInBounds_toArray, List.set_cons_zero, List.set_cons_succ]
                          have HO116 := Aside0.mk Q_HO116
                          clear Q_HO116
                          have HO119 := Aside0.mk Q_HO119
                          clear Q_HO119
                          have BK109 := Aside0.mk Q_BK109
                          clear Q_BK109
                          clear Q_HI0
                          have HK := Aside0.mk Q_HK
                          clear Q_HK
                          have HB := Aside0.mk Q_HB
                          clear Q_HB
                          clear Q_HI0_e1
                          have HO128 := Aside0.mk (Q_HO128 hb3_)
                          clear Q_HO128
                          have HA_HO128 := Aside0.mk (Q_HA_HO128 hb3_)
                          clear Q_HA_HO128
                          clear Q_HI0_e5
                          have HO134 := Aside0.mk (Q_HO134 hb8_)
                          clear Q_HO134
                          have HA_HO134 := Aside0.mk (Q_HA_HO134 hb8_)
                          clear Q_HA_HO134
                          have HI0 := Aside0.mk (Q_HI0_e10 hb10_)
                          clear Q_HI0_e10
                          clear hall hb1_ hb2_ hb3_ hb5_ hb6_ hb7_ hb8_ hb10_ hb11_ hb12_ hb13_
                          obtain ⟨co45, eo45⟩ := HA_HO128.out
                          clear HA_HO128
                          subst eo45
                          obtain ⟨co46, eo46⟩ := HA_HO134.out
                          clear HA_HO134
                          subst eo46
                          try go_wp2_with (first | ((with_reducible refine gate_callee (f := 40) rfl ?_); refine goesL_ (some 38) rfl rfl Try.func40 (by kernel_rfl) rfl #[.int .i64 (rd y114 (rd y117 t120)), .int .i64 (rd y132 t135)] rfl (by (try simp only [List.map_toArray, List.map_cons, List.map_nil]); first | done | rfl | (simp only [List.length_drop, List.length_take]; rfl)) ?_; (with_reducible refine (spec_l2Gcd.calls k (rd y114 (rd y117 t120)) (rd y132 t135) t138 _ A17.out).mono ?_); rintro e w47 ⟨rfl, hb⟩; refine ⟨_, rfl, ?_⟩; have n0_ := Aside0.mk (Kd.R_below (by (with_reducible repeat (first | apply Kd.R_alloc | apply Kd.R_drewN | apply Kd.R_drew)); exact HO116.out) hb); have n1_ := Aside0.mk (Kd.R_below (by (with_reducible repeat (first | apply Kd.R_alloc | apply Kd.R_drewN | apply Kd.R_drew)); exact HO119.out) hb); have n2_ := Aside0.mk (Kd.R_below (by (with_reducible repeat (first | apply Kd.R_alloc | apply Kd.R_drewN | apply Kd.R_drew)); exact HO128.out) hb); have n3_ := Aside0.mk (Kd.R_below (by (with_reducible repeat (first | apply Kd.R_alloc | apply Kd.R_drewN | apply Kd.R_drew)); exact HO134.out) hb); have n4_ := Aside0.mk (IsS50.below (by repeat (first | (with_reducible first | exact HI0.out | apply IsS50.alloc | apply IsS50.drewN | apply IsS50.drew | apply IsS50.set_1 | refine IsS50.far ?_ NB0_109.out _) | exact HI0.out)) hb); have n5_ := Aside0.mk (blk_below (g := gb109) (o := .cells #[.int .i64 0, .int .i64 0] 24 (0, 0)) (by (with_reducible repeat (first | refine blk_drewN ?_ _ | refine blk_drew ?_ | refine blk_alloc ?_ _)); exact BK109.out) hb); have n6_ := Aside0.mk (KeepBut.trans (by repeat (first | (with_reducible first | exact HK.out | apply KeepBut.set_ | apply keep_drewN | apply keep_drew | apply keep_alloc | refine keep_far ?_ GW109.out _) | exact HK.out)) (KeepBut.of_below hb g none) (.inl rfl)); have n7_ := Aside0.mk (below_step (by repeat (first | (with_reducible first | exact HB.out | apply below_alloc | apply pw_below_drewN | apply below_drew1 | refine below_set ?_ (IsS50.ge HI0.out) | refine below_set ?_ GE109.out) | exact HB.out)) hb); clear HO116; clear HO119; clear HO128; clear HO134; clear HI0; clear BK109; clear HK; clear HB; have HO116 := n0_; have HO119 := n1_; have HO128 := n2_; have HO134 := n3_; have HI0 := n4_; have BK109 := n5_; have HK := n6_; have HB := n7_; clear n0_ n1_ n2_ n3_ n4_ n5_ n6_ n7_; (try clear hb); (try clear hb2); (try clear hk); (try clear hi)))
                          have n0_ := Aside0.mk (Kd.R_drew HO116.out)
                          have n1_ := Aside0.mk (Kd.R_drew HO119.out)
                          have n2_ := Aside0.mk (Kd.R_drew HO128.out)
                          have n3_ := Aside0.mk (Kd.R_drew HO134.out)
                          have n4_ := Aside0.mk (blk_drew BK109.out)
                          have n5_ := Aside0.mk (IsS50.drew HI0.out)
                          have n6_ := Aside0.mk (keep_drew HK.out)
                          have n7_ := Aside0.mk (below_drew1 HB.out)
                          clear HO116
                          clear HO119
                          clear HO128
                          clear HO134
                          clear BK109
                          clear HI0
                          clear HK
                          clear HB
                          have HO116 := n0_
                          have HO119 := n1_
                          have HO128 := n2_
                          have HO134 := n3_
                          have BK109 := n4_
                          have HI0 := n5_
                          have HK := n6_
                          have HB := n7_
                          clear n0_ n1_ n2_ n3_ n4_ n5_ n6_ n7_
                          refine start_ (n := 9) (S := fun w' => True) (ds := []) #[false, false, false, false, false, false, false, false, false] (by kernel_rfl) rfl rfl trivial (fun hHeld => ?_); refine with_tabW spec_l20Fraction.tab4 spec_l20Fraction.bits4 (fun HT_ HW_ => ?_)
                          generalize w47.drew = w48 at HO116 HO119 HO128 HO134 BK109 HI0 HK HB hHeld ⊢
                          refine pure_ (i := 0) (N := some 39) (v := ?_) (a' := ?_) #[true, false, false, false, false, false, false, false, false] rfl rfl (any_of HT_.out (by kernel_rfl)) (fun _ _ _ h => h) (Or.inl ⟨by rfl, ?_⟩) ?_ ?_
                          rotate_left
                          · intro w'
                            go_simp
                            with_reducible rfl
                          rotate_left
                          · simp only [Act.put, List.setIfInBounds_toArray, List.set_cons_zero, List.set_cons_succ, i64_w, i32_w]
                            rfl
                          refine pure_ (i := 1) (N := some 40) (v := ?_) (a' := ?_) #[true, true, false, false, false, false, false, false, false] rfl rfl (any_of HT_.out (by kernel_rfl)) (fun _ _ _ h => h) (Or.inl ⟨by rfl, ?_⟩) ?_ ?_
                          rotate_left
                          · intro w'
                            go_simp
                            with_reducible rfl
                          rotate_left
                          · simp only [Act.put, List.setIfInBounds_toArray, List.set_cons_zero, List.set_cons_succ, i64_w, i32_w]
                            rfl
                          refine pure_ (i := 2) (N := some 41) (v := ?_) (a' := ?_) #[true, true, true, false, false, false, false, false, false] rfl rfl (any_of HT_.out (by kernel_rfl)) (fun _ _ _ h => h) (Or.inl ⟨by rfl, ?_⟩) ?_ ?_
                          rotate_left
                          · intro w'
                            go_simp
                            with_reducible rfl
                          rotate_left
                          · simp only [Act.put, List.setIfInBounds_toArray, List.set_cons_zero, List.set_cons_succ, i64_w, i32_w]
                            rfl
                          refine pure_ (i := 3) (N := some 42) (v := ?_) (a' := ?_) #[true, true, true, true, false, false, false, false, false] rfl rfl (any_of HT_.out (by kernel_rfl)) (fun _ _ _ h => h) (Or.inl ⟨by rfl, ?_⟩) ?_ ?_
                          rotate_left
                          · intro w'
                            go_simp
                            with_reducible rfl
                          rotate_left
                          · simp only [Act.put, List.setIfInBounds_toArray, List.set_cons_zero, List.set_cons_succ, i64_w, i32_w]
                            rfl
                          refine pure_ (i := 4) (N := some 43) (v := ?_) (a' := ?_) #[true, true, true, true, true, false, false, false, false] rfl rfl (any_of HT_.out (by kernel_rfl)) (fun _ _ _ h => h) (Or.inl ⟨by rfl, ?_⟩) ?_ ?_
                          rotate_left
                          · intro w'
                            go_simp
                            with_reducible rfl
                          rotate_left
                          · simp only [Act.put, List.setIfInBounds_toArray, List.set_cons_zero, List.set_cons_succ, i64_w, i32_w]
                            rfl
                          refine pure_ (i := 5) (N := some 44) (v := ?_) (a' := ?_) #[true, true, true, true, true, true, false, false, false] rfl rfl (any_of HT_.out (by kernel_rfl)) (fun _ _ _ h => h) (Or.inl ⟨by rfl, ?_⟩) ?_ ?_
                          rotate_left
                          · intro w'
                            go_simp
                            with_reducible rfl
                          rotate_left
                          · simp only [Act.put, List.setIfInBounds_toArray, List.set_cons_zero, List.set_cons_succ, i64_w, i32_w]
                            rfl
                          refine pure_ (i := 6) (N := some 45) (v := ?_) (a' := ?_) #[true, true, true, true, true, true, true, false, false] rfl rfl (any_of HT_.out (by kernel_rfl)) (fun _ _ _ h => h) (Or.inl ⟨by rfl, ?_⟩) ?_ ?_
                          rotate_left
                          · intro w'
                            go_simp
                            with_reducible rfl
                          rotate_left
                          · simp only [Act.put, List.setIfInBounds_toArray, List.set_cons_zero, List.set_cons_succ, i64_w, i32_w]
                            rfl
                          refine one_ (i := 7) (N := some 8) #[true, true, true, true, true, true, true, true, false] rfl rfl (one_of HT_.out (by kernel_rfl)) (by decide) (fun K hK => ?_)
                          refine box_step ?hg (N := 8) ?hd (cs := #[.int .i64 0, .int .i64 0]) (t := 24) ?hr ?_; (case hd => rfl); (case hg => rfl); (case hr => first | (go_simp; done) | (go_simp; rfl))
                          intro gb139 hg w49 hbox hb
                          have n0_ := Aside0.mk (Kd.R_below (by (with_reducible repeat (first | apply Kd.R_alloc | apply Kd.R_drewN | apply Kd.R_drew)); exact HO116.out) hb)
                          have n1_ := Aside0.mk (Kd.R_below (by (with_reducible repeat (first | apply Kd.R_alloc | apply Kd.R_drewN | apply Kd.R_drew)); exact HO119.out) hb)
                          have n2_ := Aside0.mk (Kd.R_below (by (with_reducible repeat (first | apply Kd.R_alloc | apply Kd.R_drewN | apply Kd.R_drew)); exact HO128.out) hb)
                          have n3_ := Aside0.mk (Kd.R_below (by (with_reducible repeat (first | apply Kd.R_alloc | apply Kd.R_drewN | apply Kd.R_drew)); exact HO134.out) hb)
                          have n4_ := Aside0.mk (IsS50.below (by repeat (first | (with_reducible first | exact HI0.out | apply IsS50.alloc | apply IsS50.drewN | apply IsS50.drew | apply IsS50.set_1 | refine IsS50.far ?_ NB0_109.out _) | exact HI0.out)) hb)
                          have n5_ := Aside0.mk (blk_below (g := gb109) (o := .cells #[.int .i64 0, .int .i64 0] 24 (0, 0)) (by (with_reducible repeat (first | refine blk_drewN ?_ _ | refine blk_drew ?_ | refine blk_alloc ?_ _)); exact BK109.out) hb)
                          have n6_ := Aside0.mk (KeepBut.trans (by repeat (first | (with_reducible first | exact HK.out | apply KeepBut.set_ | apply keep_drewN | apply keep_drew | apply keep_alloc | refine keep_far ?_ GW109.out _) | exact HK.out)) (KeepBut.of_below hb g none) (.inl rfl))
                          have n7_ := Aside0.mk (below_step (by repeat (first | (with_reducible first | exact HB.out | apply below_alloc | apply pw_below_drewN | apply below_drew1 | refine below_set ?_ (IsS50.ge HI0.out) | refine below_set ?_ GE109.out) | exact HB.out)) hb)
                          have n8_ := Aside0.mk (hbox)
                          have n9_ := Aside0.mk ((by rw [hg]; exact (keep_size (w := w) (g := g) (row := none) (by repeat (first | (with_reducible first | exact HK.out | apply KeepBut.set_ | apply keep_drewN | apply keep_drew | apply keep_alloc | refine keep_far ?_ GW109.out _) | exact HK.out))) : w.heap.size ≤ gb139))
                          have n10_ := Aside0.mk ((Nat.le_trans HW0.out (by rw [hg]; exact (keep_size (w := w) (g := g) (row := none) (by repeat (first | (with_reducible first | exact HK.out | apply KeepBut.set_ | apply keep_drewN | apply keep_drew | apply keep_alloc | refine keep_far ?_ GW109.out _) | exact HK.out))) : w.heap.size ≤ gb139) : w0.heap.size ≤ gb139))
                          have n11_ := Aside0.mk ((by rw [hg]; exact Nat.ne_of_lt (blk_lt (g := gb109) (o := .cells #[.int .i64 0, .int .i64 0] 24 (0, 0)) (by (with_reducible repeat (first | refine blk_drewN ?_ _ | refine blk_drew ?_ | refine blk_alloc ?_ _)); exact BK109.out)) : gb109 ≠ gb139))
                          have n12_ := Aside0.mk ((by rw [hg]; exact Nat.ne_of_gt (blk_lt (g := gb109) (o := .cells #[.int .i64 0, .int .i64 0] 24 (0, 0)) (by (with_reducible repeat (first | refine blk_drewN ?_ _ | refine blk_drew ?_ | refine blk_alloc ?_ _)); exact BK109.out)) : gb139 ≠ gb109))
                          have n13_ := Aside0.mk ((by rw [hg]; exact Nat.ne_of_lt (IsS50.lt (show IsS50 w0 _ g s0_0 t136 from by repeat (first | (with_reducible first | exact HI0.out | apply IsS50.alloc | apply IsS50.drewN | apply IsS50.drew | apply IsS50.set_1 | refine IsS50.far ?_ NB0_109.out _) | exact HI0.out))) : g ≠ gb139))
                          have n14_ := Aside0.mk ((by rw [hg]; exact Nat.ne_of_gt (IsS50.lt (show IsS50 w0 _ g s0_0 t136 from by repeat (first | (with_reducible first | exact HI0.out | apply IsS50.alloc | apply IsS50.drewN | apply IsS50.drew | apply IsS50.set_1 | refine IsS50.far ?_ NB0_109.out _) | exact HI0.out))) : gb139 ≠ g))
                          clear HO116
                          clear HO119
                          clear HO128
                          clear HO134
                          clear HI0
                          clear BK109
                          clear HK
                          clear HB
                          have HO116 := n0_
                          have HO119 := n1_
                          have HO128 := n2_
                          have HO134 := n3_
                          have HI0 := n4_
                          have BK109 := n5_
                          have HK := n6_
                          have HB := n7_
                          have BK139 := n8_
                          have GW139 := n9_
                          have GE139 := n10_
                          have NB109_139 := n11_
                          have NB139_109 := n12_
                          have NB0_139 := n13_
                          have NB139_0 := n14_
                          clear n0_ n1_ n2_ n3_ n4_ n5_ n6_ n7_ n8_ n9_ n10_ n11_ n12_ n13_ n14_
                          clear hb hbox hg
                          refine hK.out _ _ trivial (fun hHeld => ?_)
                          clear hK K
                          refine norm_ (a' := ?_) ?_ ?_
                          rotate_left
                          · show Act.put _ (some 8) _ = _
                            simp only [Act.put, List.setIfInBounds_toArray, List.set_cons_zero, List.set_cons_succ, i64_w, i32_w]
                            rfl
                          refine one_ (i := 8) (N := none) #[true, true, true, true, true, true, true, true, true] rfl rfl (one_of HT_.out (by kernel_rfl)) (by decide) (fun K hK => ?_)
                          have hs50 : w49.cell? ⟨gb139, 0, none⟩ = some (.int .i64 0) := (blk_cell BK139.out 0).trans rfl
                          have hfs50 := blk_frozen BK139.out 0
                          have hns50_0 := NB109_139.out
                          have hms50_0 := NB139_109.out
                          have hs51 : w49.cell? ⟨gb139, 1, none⟩ = some (.int .i64 0) := (blk_cell BK139.out 1).trans rfl
                          have hfs51 := blk_frozen BK139.out 1
                          have hns51_0 := NB109_139.out
                          have hms51_0 := NB139_109.out
                          refine skip_ (w1 := ?_) (by rfl) rfl ?_ ?_
                          rotate_left
                          · go_simp
                            rfl
                          refine hK.out _ _ trivial (fun hHeld => ?_)
                          clear hK K
                          refine done_ (done_of HT_.out (by kernel_rfl)) ?_
                          try go_wp2_with (first | ((with_reducible refine gate_callee (f := 38) rfl ?_); refine goesL_ (some 48) rfl rfl Try.func38 (by kernel_rfl) rfl #[.pointer (some ⟨g, 0, none⟩), .int .i64 a1] rfl (by (try simp only [List.map_toArray, List.map_cons, List.map_nil]); first | done | rfl | (simp only [List.length_drop, List.length_take]; rfl)) ?_; (with_reducible refine (spec_l20Rd_odd.calls k g s0_0 t136 a1 true t141 w0 _ ?side1 ?side2 A19.out).mono ?_); (case side1 => repeat (first | (with_reducible first | exact HI0.out | apply IsS50.alloc | apply IsS50.drewN | apply IsS50.drew | apply IsS50.set_1 | refine IsS50.far ?_ NB0_109.out _ | refine IsS50.far ?_ NB0_139.out _) | exact HI0.out)); (case side2 => repeat (first | (with_reducible first | exact HB.out | apply below_alloc | apply pw_below_drewN | apply below_drew1 | refine below_set ?_ (IsS50.ge HI0.out) | refine below_set ?_ GE109.out | refine below_set ?_ GE139.out) | exact HB.out)); rintro e w52 ⟨rfl, hi, hb, hk⟩; refine ⟨_, rfl, ?_⟩; have n0_ := Aside0.mk (KeepBut.blk hk (g' := gb109) (o := .cells #[.int .i64 0, .int .i64 0] 24 (0, 0)) (by (with_reducible repeat (first | refine blk_drewN ?_ _ | refine blk_drew ?_ | refine blk_alloc ?_ _)); refine blk_far ?_ NB109_139.out _; (with_reducible repeat (first | refine blk_drewN ?_ _ | refine blk_drew ?_ | refine blk_alloc ?_ _)); refine blk_far ?_ NB109_139.out _; (with_reducible repeat (first | refine blk_drewN ?_ _ | refine blk_drew ?_ | refine blk_alloc ?_ _)); exact BK109.out) NB109_0.out (by simp)); have n1_ := Aside0.mk (Kd.R_mono (Kd.R_keep (IsS50.apart (show IsS50 w0 _ g s0_0 t136 from by repeat (first | (with_reducible first | exact HI0.out | apply IsS50.alloc | apply IsS50.drewN | apply IsS50.drew | apply IsS50.set_1 | refine IsS50.far ?_ NB0_109.out _ | refine IsS50.far ?_ NB0_139.out _) | exact HI0.out)) (by (with_reducible repeat (first | apply Kd.R_alloc | apply Kd.R_drewN | apply Kd.R_drew)); exact (Kd.R_mono (Kd.R_far (p := ⟨gb139, 1, none⟩) (Kd.R_far (p := ⟨gb139, 0, none⟩) (Kd.R_types HO116.out BK139.out (by decide)) (fun _ hk => hk.2) (.int .i64 (wrap64 (Int.tdiv (rd y114 (rd y117 t120)) t138)))) (fun _ hk => hk.2) (.int .i64 (wrap64 (Int.tdiv (rd y132 t135) t138)))) (fun _ h_ => h_.1))) (by decide)) hk (fun _ h => h.2)) (fun _ h => h.1)); have n2_ := Aside0.mk (Kd.R_mono (Kd.R_keep (IsS50.apart (show IsS50 w0 _ g s0_0 t136 from by repeat (first | (with_reducible first | exact HI0.out | apply IsS50.alloc | apply IsS50.drewN | apply IsS50.drew | apply IsS50.set_1 | refine IsS50.far ?_ NB0_109.out _ | refine IsS50.far ?_ NB0_139.out _) | exact HI0.out)) (by (with_reducible repeat (first | apply Kd.R_alloc | apply Kd.R_drewN | apply Kd.R_drew)); exact (Kd.R_mono (Kd.R_far (p := ⟨gb139, 1, none⟩) (Kd.R_far (p := ⟨gb139, 0, none⟩) (Kd.R_types HO119.out BK139.out (by decide)) (fun _ hk => hk.2) (.int .i64 (wrap64 (Int.tdiv (rd y114 (rd y117 t120)) t138)))) (fun _ hk => hk.2) (.int .i64 (wrap64 (Int.tdiv (rd y132 t135) t138)))) (fun _ h_ => h_.1))) (by decide)) hk (fun _ h => h.2)) (fun _ h => h.1)); have n3_ := Aside0.mk (Kd.R_mono (Kd.R_keep (IsS50.apart (show IsS50 w0 _ g s0_0 t136 from by repeat (first | (with_reducible first | exact HI0.out | apply IsS50.alloc | apply IsS50.drewN | apply IsS50.drew | apply IsS50.set_1 | refine IsS50.far ?_ NB0_109.out _ | refine IsS50.far ?_ NB0_139.out _) | exact HI0.out)) (by (with_reducible repeat (first | apply Kd.R_alloc | apply Kd.R_drewN | apply Kd.R_drew)); exact (Kd.R_mono (Kd.R_far (p := ⟨gb139, 1, none⟩) (Kd.R_far (p := ⟨gb139, 0, none⟩) (Kd.R_types HO128.out BK139.out (by decide)) (fun _ hk => hk.2) (.int .i64 (wrap64 (Int.tdiv (rd y114 (rd y117 t120)) t138)))) (fun _ hk => hk.2) (.int .i64 (wrap64 (Int.tdiv (rd y132 t135) t138)))) (fun _ h_ => h_.1))) (by decide)) hk (fun _ h => h.2)) (fun _ h => h.1)); have n4_ := Aside0.mk (Kd.R_mono (Kd.R_keep (IsS50.apart (show IsS50 w0 _ g s0_0 t136 from by repeat (first | (with_reducible first | exact HI0.out | apply IsS50.alloc | apply IsS50.drewN | apply IsS50.drew | apply IsS50.set_1 | refine IsS50.far ?_ NB0_109.out _ | refine IsS50.far ?_ NB0_139.out _) | exact HI0.out)) (by (with_reducible repeat (first | apply Kd.R_alloc | apply Kd.R_drewN | apply Kd.R_drew)); exact (Kd.R_mono (Kd.R_far (p := ⟨gb139, 1, none⟩) (Kd.R_far (p := ⟨gb139, 0, none⟩) (Kd.R_types HO134.out BK139.out (by decide)) (fun _ hk => hk.2) (.int .i64 (wrap64 (Int.tdiv (rd y114 (rd y117 t120)) t138)))) (fun _ hk => hk.2) (.int .i64 (wrap64 (Int.tdiv (rd y132 t135) t138)))) (fun _ h_ => h_.1))) (by decide)) hk (fun _ h => h.2)) (fun _ h => h.1)); have n5_ := Aside0.mk (KeepBut.blk hk (g' := gb139) (o := .cells #[.int .i64 (wrap64 (Int.tdiv (rd y114 (rd y117 t120)) t138)), .int .i64 (wrap64 (Int.tdiv (rd y132 t135) t138))] 24 (0, 0)) (by (with_reducible repeat (first | refine blk_drewN ?_ _ | refine blk_drew ?_ | refine blk_alloc ?_ _)); refine blk_put (cs := #[.int .i64 (wrap64 (Int.tdiv (rd y114 (rd y117 t120)) t138)), .int .i64 0]) ?_ 1 _ rfl; (with_reducible repeat (first | refine blk_drewN ?_ _ | refine blk_drew ?_ | refine blk_alloc ?_ _)); refine blk_put (cs := #[.int .i64 0, .int .i64 0]) ?_ 0 _ rfl; (with_reducible repeat (first | refine blk_drewN ?_ _ | refine blk_drew ?_ | refine blk_alloc ?_ _)); exact BK139.out) NB139_0.out (by simp)); have n6_ := Aside0.mk (KeepBut.trans (by repeat (first | (with_reducible first | exact HK.out | apply KeepBut.set_ | apply keep_drewN | apply keep_drew | apply keep_alloc | refine keep_far ?_ GW109.out _ | refine keep_far ?_ GW139.out _) | exact HK.out)) hk (.inl rfl)); have n7_ := Aside0.mk (hb); have n8_ := Aside0.mk (hi); clear BK109; clear HO116; clear HO119; clear HO128; clear HO134; clear BK139; clear HK; clear HB; clear HI0; have BK109 := n0_; have HO116 := n1_; have HO119 := n2_; have HO128 := n3_; have HO134 := n4_; have BK139 := n5_; have HK := n6_; have HB := n7_; have HI0 := n8_; clear n0_ n1_ n2_ n3_ n4_ n5_ n6_ n7_ n8_; (try clear hb); (try clear hb2); (try clear hk); (try clear hi)) | ((with_reducible refine gate_dst (N := 55) rfl ?_); refine Kd.R_lit k24 _ 24 ?hg (N := 55) ?hd (xs := ([(⟨2, 4⟩ : S24), (⟨1, 0⟩ : S24), (⟨1000000001, 1⟩ : S24), (⟨1, 1000001⟩ : S24), (⟨1, (-1)⟩ : S24), (⟨0, 0⟩ : S24)] : List (S24))) (inner := [.int .i64 2, .int .i64 4, .int .i64 1, .int .i64 0, .int .i64 1000000001, .int .i64 1, .int .i64 1, .int .i64 1000001, .int .i64 1, .int .i64 (-1), .int .i64 0, .int .i64 0]) (ok := fun _ => True) (okp := fun _ => True) ?hr ?hp (fun _ hk => hk) trivial (Below.refl _ _) (Nat.le_refl _) (by simp) ?_; (case hd => rfl); (case hg => rfl); (case hr => first | (go_simp; done) | (go_simp; rfl)); (case hp => exact (Reps.c2 (show Kd.M k24 _ _ _ (⟨2, 4⟩ : S24) [.int .i64 2, .int .i64 4] from (k24_mkM _ _ _ (⟨2, 4⟩ : S24) )) (Reps.c2 (show Kd.M k24 _ _ _ (⟨1, 0⟩ : S24) [.int .i64 1, .int .i64 0] from (k24_mkM _ _ _ (⟨1, 0⟩ : S24) )) (Reps.c2 (show Kd.M k24 _ _ _ (⟨1000000001, 1⟩ : S24) [.int .i64 1000000001, .int .i64 1] from (k24_mkM _ _ _ (⟨1000000001, 1⟩ : S24) )) (Reps.c2 (show Kd.M k24 _ _ _ (⟨1, 1000001⟩ : S24) [.int .i64 1, .int .i64 1000001] from (k24_mkM _ _ _ (⟨1, 1000001⟩ : S24) )) (Reps.c2 (show Kd.M k24 _ _ _ (⟨1, (-1)⟩ : S24) [.int .i64 1, .int .i64 (-1)] from (k24_mkM _ _ _ (⟨1, (-1)⟩ : S24) )) (Reps.c2 (show Kd.M k24 _ _ _ (⟨0, 0⟩ : S24) [.int .i64 0, .int .i64 0] from (k24_mkM _ _ _ (⟨0, 0⟩ : S24) )) (Reps.none _ _)))))))); intro v143 w53 ho54 hb hg_ hnew_; clear hg_ hnew_; (first | rw [← Ny142.out] at ho54 | (simp only [Int.reduceToNat] at ho54; rw [← Ny142.out] at ho54)); have n0_ := Aside0.mk (Kd.R_below (by (with_reducible repeat (first | apply Kd.R_alloc | apply Kd.R_drewN | apply Kd.R_drew)); exact HO116.out) hb); have n1_ := Aside0.mk (Kd.R_below (by (with_reducible repeat (first | apply Kd.R_alloc | apply Kd.R_drewN | apply Kd.R_drew)); exact HO119.out) hb); have n2_ := Aside0.mk (Kd.R_below (by (with_reducible repeat (first | apply Kd.R_alloc | apply Kd.R_drewN | apply Kd.R_drew)); exact HO128.out) hb); have n3_ := Aside0.mk (Kd.R_below (by (with_reducible repeat (first | apply Kd.R_alloc | apply Kd.R_drewN | apply Kd.R_drew)); exact HO134.out) hb); have n4_ := Aside0.mk (Kd.R_lower (Kd.R_newB (Kd.R_newB ho54 (g := gb109) (o := .cells #[.int .i64 0, .int .i64 0] 24 (0, 0)) (by (with_reducible repeat (first | refine blk_drewN ?_ _ | refine blk_drew ?_ | refine blk_alloc ?_ _)); exact BK109.out)) (g := gb139) (o := .cells #[.int .i64 (wrap64 (Int.tdiv (rd y114 (rd y117 t120)) t138)), .int .i64 (wrap64 (Int.tdiv (rd y132 t135) t138))] 24 (0, 0)) (by (with_reducible repeat (first | refine blk_drewN ?_ _ | refine blk_drew ?_ | refine blk_alloc ?_ _)); exact BK139.out)) (keep_size (w := w) (g := g) (row := none) (by repeat (first | (with_reducible first | exact HK.out | apply KeepBut.set_ | apply keep_drewN | apply keep_drew | apply keep_alloc | refine keep_far ?_ GW109.out _ | refine keep_far ?_ GW139.out _) | exact HK.out)))); have n5_ := Aside0.mk (IsS50.below (by repeat (first | (with_reducible first | exact HI0.out | apply IsS50.alloc | apply IsS50.drewN | apply IsS50.drew | apply IsS50.set_1 | refine IsS50.far ?_ NB0_109.out _ | refine IsS50.far ?_ NB0_139.out _) | exact HI0.out)) hb); have n6_ := Aside0.mk (blk_below (g := gb109) (o := .cells #[.int .i64 0, .int .i64 0] 24 (0, 0)) (by (with_reducible repeat (first | refine blk_drewN ?_ _ | refine blk_drew ?_ | refine blk_alloc ?_ _)); exact BK109.out) hb); have n7_ := Aside0.mk (blk_below (g := gb139) (o := .cells #[.int .i64 (wrap64 (Int.tdiv (rd y114 (rd y117 t120)) t138)), .int .i64 (wrap64 (Int.tdiv (rd y132 t135) t138))] 24 (0, 0)) (by (with_reducible repeat (first | refine blk_drewN ?_ _ | refine blk_drew ?_ | refine blk_alloc ?_ _)); exact BK139.out) hb); have n8_ := Aside0.mk (KeepBut.trans (by repeat (first | (with_reducible first | exact HK.out | apply KeepBut.set_ | apply keep_drewN | apply keep_drew | apply keep_alloc | refine keep_far ?_ GW109.out _ | refine keep_far ?_ GW139.out _) | exact HK.out)) (KeepBut.of_below hb g none) (.inl rfl)); have n9_ := Aside0.mk (below_step (by repeat (first | (with_reducible first | exact HB.out | apply below_alloc | apply pw_below_drewN | apply below_drew1 | refine below_set ?_ (IsS50.ge HI0.out) | refine below_set ?_ GE109.out | refine below_set ?_ GE139.out) | exact HB.out)) hb); clear HO116; clear HO119; clear HO128; clear HO134; clear HI0; clear BK109; clear BK139; clear HK; clear HB; have HO116 := n0_; have HO119 := n1_; have HO128 := n2_; have HO134 := n3_; have HO144 := n4_; have HI0 := n5_; have BK109 := n6_; have BK139 := n7_; have HK := n8_; have HB := n9_; clear n0_ n1_ n2_ n3_ n4_ n5_ n6_ n7_ n8_ n9_; clear hb ho54) | ((with_reducible refine gate_callee (f := 30) rfl ?_); refine goesL_ (some 57) rfl rfl Try.func30 (by kernel_rfl) rfl #[.pointer (some ⟨g, 0, none⟩), .int .i64 6] rfl (by (try simp only [List.map_toArray, List.map_cons, List.map_nil]); first | done | rfl | (simp only [List.length_drop, List.length_take]; rfl)) ?_; (with_reducible refine (spec_l20Rd_pick.calls k g s0_0 t141 6 t145 t146 w0 _ ?side1 ?side2 A21.out).mono ?_); (case side1 => repeat (first | (with_reducible first | exact HI0.out | apply IsS50.alloc | apply IsS50.drewN | apply IsS50.drew | apply IsS50.set_1 | refine IsS50.far ?_ NB0_109.out _ | refine IsS50.far ?_ NB0_139.out _) | exact HI0.out)); (case side2 => repeat (first | (with_reducible first | exact HB.out | apply below_alloc | apply pw_below_drewN | apply below_drew1 | refine below_set ?_ (IsS50.ge HI0.out) | refine below_set ?_ GE109.out | refine below_set ?_ GE139.out) | exact HB.out)); rintro e w55 ⟨rfl, hi, hb, hk⟩; refine ⟨_, rfl, ?_⟩; have n0_ := Aside0.mk (KeepBut.blk hk (g' := gb109) (o := .cells #[.int .i64 0, .int .i64 0] 24 (0, 0)) (by (with_reducible repeat (first | refine blk_drewN ?_ _ | refine blk_drew ?_ | refine blk_alloc ?_ _)); exact BK109.out) NB109_0.out (by simp)); have n1_ := Aside0.mk (Kd.R_mono (Kd.R_keep (IsS50.apart (show IsS50 w0 _ g s0_0 t141 from by repeat (first | (with_reducible first | exact HI0.out | apply IsS50.alloc | apply IsS50.drewN | apply IsS50.drew | apply IsS50.set_1 | refine IsS50.far ?_ NB0_109.out _ | refine IsS50.far ?_ NB0_139.out _) | exact HI0.out)) (by (with_reducible repeat (first | apply Kd.R_alloc | apply Kd.R_drewN | apply Kd.R_drew)); exact HO116.out) (by decide)) hk (fun _ h => h.2)) (fun _ h => h.1)); have n2_ := Aside0.mk (Kd.R_mono (Kd.R_keep (IsS50.apart (show IsS50 w0 _ g s0_0 t141 from by repeat (first | (with_reducible first | exact HI0.out | apply IsS50.alloc | apply IsS50.drewN | apply IsS50.drew | apply IsS50.set_1 | refine IsS50.far ?_ NB0_109.out _ | refine IsS50.far ?_ NB0_139.out _) | exact HI0.out)) (by (with_reducible repeat (first | apply Kd.R_alloc | apply Kd.R_drewN | apply Kd.R_drew)); exact HO119.out) (by decide)) hk (fun _ h => h.2)) (fun _ h => h.1)); have n3_ := Aside0.mk (Kd.R_mono (Kd.R_keep (IsS50.apart (show IsS50 w0 _ g s0_0 t141 from by repeat (first | (with_reducible first | exact HI0.out | apply IsS50.alloc | apply IsS50.drewN | apply IsS50.drew | apply IsS50.set_1 | refine IsS50.far ?_ NB0_109.out _ | refine IsS50.far ?_ NB0_139.out _) | exact HI0.out)) (by (with_reducible repeat (first | apply Kd.R_alloc | apply Kd.R_drewN | apply Kd.R_drew)); exact HO128.out) (by decide)) hk (fun _ h => h.2)) (fun _ h => h.1)); have n4_ := Aside0.mk (Kd.R_mono (Kd.R_keep (IsS50.apart (show IsS50 w0 _ g s0_0 t141 from by repeat (first | (with_reducible first | exact HI0.out | apply IsS50.alloc | apply IsS50.drewN | apply IsS50.drew | apply IsS50.set_1 | refine IsS50.far ?_ NB0_109.out _ | refine IsS50.far ?_ NB0_139.out _) | exact HI0.out)) (by (with_reducible repeat (first | apply Kd.R_alloc | apply Kd.R_drewN | apply Kd.R_drew)); exact HO134.out) (by decide)) hk (fun _ h => h.2)) (fun _ h => h.1)); have n5_ := Aside0.mk (KeepBut.blk hk (g' := gb139) (o := .cells #[.int .i64 (wrap64 (Int.tdiv (rd y114 (rd y117 t120)) t138)), .int .i64 (wrap64 (Int.tdiv (rd y132 t135) t138))] 24 (0, 0)) (by (with_reducible repeat (first | refine blk_drewN ?_ _ | refine blk_drew ?_ | refine blk_alloc ?_ _)); exact BK139.out) NB139_0.out (by simp)); have n6_ := Aside0.mk (Kd.R_mono (Kd.R_keep (IsS50.apart (show IsS50 w0 _ g s0_0 t141 from by repeat (first | (with_reducible first | exact HI0.out | apply IsS50.alloc | apply IsS50.drewN | apply IsS50.drew | apply IsS50.set_1 | refine IsS50.far ?_ NB0_109.out _ | refine IsS50.far ?_ NB0_139.out _) | exact HI0.out)) (by (with_reducible repeat (first | apply Kd.R_alloc | apply Kd.R_drewN | apply Kd.R_drew)); exact HO144.out) (by decide)) hk (fun _ h => h.2)) (fun _ h => h.1)); have n7_ := Aside0.mk (KeepBut.trans (by repeat (first | (with_reducible first | exact HK.out | apply KeepBut.set_ | apply keep_drewN | apply keep_drew | apply keep_alloc | refine keep_far ?_ GW109.out _ | refine keep_far ?_ GW139.out _) | exact HK.out)) hk (.inl rfl)); have n8_ := Aside0.mk (hb); have n9_ := Aside0.mk (hi); clear BK109; clear HO116; clear HO119; clear HO128; clear HO134; clear BK139; clear HO144; clear HK; clear HB; clear HI0; have BK109 := n0_; have HO116 := n1_; have HO119 := n2_; have HO128 := n3_; have HO134 := n4_; have BK139 := n5_; have HO144 := n6_; have HK := n7_; have HB := n8_; have HI0 := n9_; clear n0_ n1_ n2_ n3_ n4_ n5_ n6_ n7_ n8_ n9_; (try clear hb); (try clear hb2); (try clear hk); (try clear hi); obtain ⟨Ao56, co56, eo56⟩ := Kd.R_slice HO144.out; subst eo56; have p147 : 0 ≤ (t145 : Int) := of_decide_eq_true (by first | (with_reducible assumption) | assumption); have q147 : t145 < (y142.length : Int) := of_decide_eq_true (by first | (with_reducible assumption) | assumption); obtain ⟨ad147, e147, hx147_0, hx147_1⟩ := at_T24 (Kd.R_reads' HO144.out).2.2 t145 p147 q147; cases e147; replace p147 := eq_true p147; replace q147 := eq_true q147; have hnb57 := NB139_109.out; have hnc57 := NB109_139.out; have hnb58 := NB139_0.out; have hnc58 := NB0_139.out; have hcz59_0 : w55.cell? ⟨gb139, 0, none⟩ = some (.int .i64 (wrap64 (Int.tdiv (rd y114 (rd y117 t120)) t138))) := (blk_cell BK139.out 0).trans rfl; have hcz59_1 : w55.cell? ⟨gb139, 1, none⟩ = some (.int .i64 (wrap64 (Int.tdiv (rd y132 t135) t138))) := (blk_cell BK139.out 1).trans rfl; have hfz59_0 := blk_frozen BK139.out 0; have hfz59_1 := blk_frozen BK139.out 1; have hnb60 := NB109_0.out; have hnc60 := NB0_109.out; have hcz61_0 : w55.cell? ⟨gb109, 0, none⟩ = some (.int .i64 0) := (blk_cell BK109.out 0).trans rfl; have hcz61_1 : w55.cell? ⟨gb109, 1, none⟩ = some (.int .i64 0) := (blk_cell BK109.out 1).trans rfl; have hfz61_0 := blk_frozen BK109.out 0; have hfz61_1 := blk_frozen BK109.out 1))
                          refine bodyPost_ret (results_cell_row rfl _ _ gb109 24 #[.int .i64 ((rd_T24 y142 t145).f0), .int .i64 ((rd_T24 y142 t145).f1)] (0, 0) _ rfl (by (with_reducible repeat (first | refine blk_drewN ?_ _ | refine blk_drew ?_ | refine blk_alloc ?_ _)); refine blk_put (cs := #[.int .i64 ((rd_T24 y142 t145).f0), .int .i64 0]) ?_ 1 _ rfl; (with_reducible repeat (first | refine blk_drewN ?_ _ | refine blk_drew ?_ | refine blk_alloc ?_ _)); refine blk_put (cs := #[.int .i64 0, .int .i64 0]) ?_ 0 _ rfl; (with_reducible repeat (first | refine blk_drewN ?_ _ | refine blk_drew ?_ | refine blk_alloc ?_ _)); refine blk_far ?_ NB109_139.out _; (with_reducible repeat (first | refine blk_drewN ?_ _ | refine blk_drew ?_ | refine blk_alloc ?_ _)); refine blk_far ?_ NB109_139.out _; (with_reducible repeat (first | refine blk_drewN ?_ _ | refine blk_drew ?_ | refine blk_alloc ?_ _)); exact BK109.out) Try.underlying24 rfl (by kernel_rfl)) rfl ?_
                          exact ⟨by first | rfl | (simp [errW_none, errW_some] <;> rfl) | (simp [*, errW_none, errW_some] <;> rfl), by repeat (first | (with_reducible first | exact HI0.out | apply IsS50.alloc | apply IsS50.drewN | apply IsS50.drew | apply IsS50.set_1 | refine IsS50.far ?_ NB0_109.out _ | refine IsS50.far ?_ NB0_139.out _) | exact HI0.out), by repeat (first | (with_reducible first | exact HB.out | apply below_alloc | apply pw_below_drewN | apply below_drew1 | refine below_set ?_ (IsS50.ge HI0.out) | refine below_set ?_ GE109.out | refine below_set ?_ GE139.out) | exact HB.out), by repeat (first | (with_reducible first | exact HK.out | apply KeepBut.set_ | apply keep_drewN | apply keep_drew | apply keep_alloc | refine keep_far ?_ GW109.out _ | refine keep_far ?_ GW139.out _) | exact HK.out)⟩
                        · rw [if_neg c23] at H
                          exact absurd H (by simp)
                      · rw [if_neg c22] at H
                        exact absurd H (by simp)
                    · replace c20 := Bool.eq_false_iff.mpr c20
                      subst c20
                      have H1 : (some (wrap64 (Int.tdiv (rd y114 (rd y117 t120)) t138), wrap64 (Int.tdiv (rd y132 t135) t138), t141)) = some (r1, r2, r3) := by rw [if_neg (show ¬ (false = true) by decide)] at H; exact H
                      clear H
                      have H := H1
                      clear H1
                      simp only [Option.some.injEq, Prod.mk.injEq] at H
                      obtain ⟨rfl, rfl, rfl⟩ := H
                      go_enter Try.func29, Try.ntmps29
                      try go_wp2_with (first | ((with_reducible refine gate_dst (N := 4) rfl ?_); refine box_event ?hg (N := 4) ?hd (cs := #[.int .i64 0, .int .i64 0]) (t := 24) ?hr ?_; (case hd => rfl); (case hg => rfl); (case hr => first | (go_simp; done) | (go_simp; rfl)); intro gb109 hg w62 hbox hb; have n0_ := Aside0.mk (IsS50.below (by repeat (first | (with_reducible first | exact HI0.out | apply IsS50.alloc | apply IsS50.drewN | apply IsS50.drew | apply IsS50.set_1) | exact HI0.out)) hb); have n1_ := Aside0.mk (KeepBut.trans (by repeat (first | (with_reducible first | exact HK.out | apply KeepBut.set_ | apply keep_drewN | apply keep_drew | apply keep_alloc) | exact HK.out)) (KeepBut.of_below hb g none) (.inl rfl)); have n2_ := Aside0.mk (below_step (by repeat (first | (with_reducible first | exact HB.out | apply below_alloc | apply pw_below_drewN | apply below_drew1 | refine below_set ?_ (IsS50.ge HI0.out)) | exact HB.out)) hb); have n3_ := Aside0.mk (hbox); have n4_ := Aside0.mk ((by rw [hg]; exact (keep_size (w := w) (g := g) (row := none) (by repeat (first | (with_reducible first | exact HK.out | apply KeepBut.set_ | apply keep_drewN | apply keep_drew | apply keep_alloc) | exact HK.out))) : w.heap.size ≤ gb109)); have n5_ := Aside0.mk ((Nat.le_trans HW0.out (by rw [hg]; exact (keep_size (w := w) (g := g) (row := none) (by repeat (first | (with_reducible first | exact HK.out | apply KeepBut.set_ | apply keep_drewN | apply keep_drew | apply keep_alloc) | exact HK.out))) : w.heap.size ≤ gb109) : w0.heap.size ≤ gb109)); have n6_ := Aside0.mk ((by rw [hg]; exact Nat.ne_of_lt (IsS50.lt (show IsS50 w0 _ g s0_0 s0_1 from by repeat (first | (with_reducible first | exact HI0.out | apply IsS50.alloc | apply IsS50.drewN | apply IsS50.drew | apply IsS50.set_1) | exact HI0.out))) : g ≠ gb109)); have n7_ := Aside0.mk ((by rw [hg]; exact Nat.ne_of_gt (IsS50.lt (show IsS50 w0 _ g s0_0 s0_1 from by repeat (first | (with_reducible first | exact HI0.out | apply IsS50.alloc | apply IsS50.drewN | apply IsS50.drew | apply IsS50.set_1) | exact HI0.out))) : gb109 ≠ g)); clear HI0; clear HK; clear HB; have HI0 := n0_; have HK := n1_; have HB := n2_; have BK109 := n3_; have GW109 := n4_; have GE109 := n5_; have NB0_109 := n6_; have NB109_0 := n7_; clear n0_ n1_ n2_ n3_ n4_ n5_ n6_ n7_; clear hb hbox hg) | ((with_reducible refine gate_callee (f := 30) rfl ?_); refine goesL_ (some 10) rfl rfl Try.func30 (by kernel_rfl) rfl #[.pointer (some ⟨g, 0, none⟩), .int .i64 24] rfl (by (try simp only [List.map_toArray, List.map_cons, List.map_nil]); first | done | rfl | (simp only [List.length_drop, List.length_take]; rfl)) ?_; (with_reducible refine (spec_l20Rd_pick.calls k g s0_0 s0_1 24 t110 t111 w0 _ ?side1 ?side2 A3.out).mono ?_); (case side1 => repeat (first | (with_reducible first | exact HI0.out | apply IsS50.alloc | apply IsS50.drewN | apply IsS50.drew | apply IsS50.set_1 | refine IsS50.far ?_ NB0_109.out _) | exact HI0.out)); (case side2 => repeat (first | (with_reducible first | exact HB.out | apply below_alloc | apply pw_below_drewN | apply below_drew1 | refine below_set ?_ (IsS50.ge HI0.out) | refine below_set ?_ GE109.out) | exact HB.out)); rintro e w63 ⟨rfl, hi, hb, hk⟩; refine ⟨_, rfl, ?_⟩; have n0_ := Aside0.mk (KeepBut.blk hk (g' := gb109) (o := .cells #[.int .i64 0, .int .i64 0] 24 (0, 0)) (by (with_reducible repeat (first | refine blk_drewN ?_ _ | refine blk_drew ?_ | refine blk_alloc ?_ _)); exact BK109.out) NB109_0.out (by simp)); have n1_ := Aside0.mk (KeepBut.trans (by repeat (first | (with_reducible first | exact HK.out | apply KeepBut.set_ | apply keep_drewN | apply keep_drew | apply keep_alloc | refine keep_far ?_ GW109.out _) | exact HK.out)) hk (.inl rfl)); have n2_ := Aside0.mk (hb); have n3_ := Aside0.mk (hi); clear BK109; clear HK; clear HB; clear HI0; have BK109 := n0_; have HK := n1_; have HB := n2_; have HI0 := n3_; clear n0_ n1_ n2_ n3_; (try clear hb); (try clear hb2); (try clear hk); (try clear hi)) | ((with_reducible refine gate_callee (f := 30) rfl ?_); refine goesL_ (some 13) rfl rfl Try.func30 (by kernel_rfl) rfl #[.pointer (some ⟨g, 0, none⟩), .int .i64 256] rfl (by (try simp only [List.map_toArray, List.map_cons, List.map_nil]); first | done | rfl | (simp only [List.length_drop, List.length_take]; rfl)) ?_; (with_reducible refine (spec_l20Rd_pick.calls k g s0_0 t111 256 t112 t113 w0 _ ?side1 ?side2 A4.out).mono ?_); (case side1 => repeat (first | (with_reducible first | exact HI0.out | apply IsS50.alloc | apply IsS50.drewN | apply IsS50.drew | apply IsS50.set_1 | refine IsS50.far ?_ NB0_109.out _) | exact HI0.out)); (case side2 => repeat (first | (with_reducible first | exact HB.out | apply below_alloc | apply pw_below_drewN | apply below_drew1 | refine below_set ?_ (IsS50.ge HI0.out) | refine below_set ?_ GE109.out) | exact HB.out)); rintro e w64 ⟨rfl, hi, hb, hk⟩; refine ⟨_, rfl, ?_⟩; have n0_ := Aside0.mk (KeepBut.blk hk (g' := gb109) (o := .cells #[.int .i64 0, .int .i64 0] 24 (0, 0)) (by (with_reducible repeat (first | refine blk_drewN ?_ _ | refine blk_drew ?_ | refine blk_alloc ?_ _)); exact BK109.out) NB109_0.out (by simp)); have n1_ := Aside0.mk (KeepBut.trans (by repeat (first | (with_reducible first | exact HK.out | apply KeepBut.set_ | apply keep_drewN | apply keep_drew | apply keep_alloc | refine keep_far ?_ GW109.out _) | exact HK.out)) hk (.inl rfl)); have n2_ := Aside0.mk (hb); have n3_ := Aside0.mk (hi); clear BK109; clear HK; clear HB; clear HI0; have BK109 := n0_; have HK := n1_; have HB := n2_; have HI0 := n3_; clear n0_ n1_ n2_ n3_; (try clear hb); (try clear hb2); (try clear hk); (try clear hi)) | ((with_reducible refine gate_dst (N := 15) rfl ?_); refine Kd.R_lit (Kd.int .i64) _ 3 ?hg (N := 15) ?hd (xs := ([wrap64 (t110 - 12), wrap64 (t112 * 999), 1000000000, (-1000000000)] : List Int)) (inner := [.int .i64 (wrap64 (t110 - 12)), .int .i64 (wrap64 (t112 * 999)), .int .i64 1000000000, .int .i64 (-1000000000)]) (ok := fun _ => True) (okp := fun _ => True) ?hr ?hp (fun _ hk => hk) trivial (Below.refl _ _) (Nat.le_refl _) (by simp) ?_; (case hd => rfl); (case hg => rfl); (case hr => first | (go_simp; done) | (go_simp; rfl)); (case hp => exact (Reps.one (show Kd.M (Kd.int .i64) _ _ _ (wrap64 (t110 - 12)) [.int .i64 (wrap64 (t110 - 12))] from rfl) (Reps.one (show Kd.M (Kd.int .i64) _ _ _ (wrap64 (t112 * 999)) [.int .i64 (wrap64 (t112 * 999))] from rfl) (Reps.one (show Kd.M (Kd.int .i64) _ _ _ 1000000000 [.int .i64 1000000000] from rfl) (Reps.one (show Kd.M (Kd.int .i64) _ _ _ (-1000000000) [.int .i64 (-1000000000)] from rfl) (Reps.none _ _)))))); intro v115 w65 ho66 hb hg_ hnew_; clear hg_ hnew_; (first | rw [← Ny114.out] at ho66 | (simp only [Int.reduceToNat] at ho66; rw [← Ny114.out] at ho66)); have n0_ := Aside0.mk (Kd.R_lower ho66 (keep_size (w := w) (g := g) (row := none) (by repeat (first | (with_reducible first | exact HK.out | apply KeepBut.set_ | apply keep_drewN | apply keep_drew | apply keep_alloc | refine keep_far ?_ GW109.out _) | exact HK.out)))); have n1_ := Aside0.mk (IsS50.below (by repeat (first | (with_reducible first | exact HI0.out | apply IsS50.alloc | apply IsS50.drewN | apply IsS50.drew | apply IsS50.set_1 | refine IsS50.far ?_ NB0_109.out _) | exact HI0.out)) hb); have n2_ := Aside0.mk (blk_below (g := gb109) (o := .cells #[.int .i64 0, .int .i64 0] 24 (0, 0)) (by (with_reducible repeat (first | refine blk_drewN ?_ _ | refine blk_drew ?_ | refine blk_alloc ?_ _)); exact BK109.out) hb); have n3_ := Aside0.mk (KeepBut.trans (by repeat (first | (with_reducible first | exact HK.out | apply KeepBut.set_ | apply keep_drewN | apply keep_drew | apply keep_alloc | refine keep_far ?_ GW109.out _) | exact HK.out)) (KeepBut.of_below hb g none) (.inl rfl)); have n4_ := Aside0.mk (below_step (by repeat (first | (with_reducible first | exact HB.out | apply below_alloc | apply pw_below_drewN | apply below_drew1 | refine below_set ?_ (IsS50.ge HI0.out) | refine below_set ?_ GE109.out) | exact HB.out)) hb); clear HI0; clear BK109; clear HK; clear HB; have HO116 := n0_; have HI0 := n1_; have BK109 := n2_; have HK := n3_; have HB := n4_; clear n0_ n1_ n2_ n3_ n4_; clear hb ho66) | ((with_reducible refine gate_dst (N := 16) rfl ?_); refine Kd.R_lit (Kd.int .i64) _ 3 ?hg (N := 16) ?hd (xs := ([0, 0, 0, 1, 2, 3] : List Int)) (inner := [.int .i64 0, .int .i64 0, .int .i64 0, .int .i64 1, .int .i64 2, .int .i64 3]) (ok := fun _ => True) (okp := fun _ => True) ?hr ?hp (fun _ hk => hk) trivial (Below.refl _ _) (Nat.le_refl _) (by simp) ?_; (case hd => rfl); (case hg => rfl); (case hr => first | (go_simp; done) | (go_simp; rfl)); (case hp => exact (Reps.one (show Kd.M (Kd.int .i64) _ _ _ 0 [.int .i64 0] from rfl) (Reps.one (show Kd.M (Kd.int .i64) _ _ _ 0 [.int .i64 0] from rfl) (Reps.one (show Kd.M (Kd.int .i64) _ _ _ 0 [.int .i64 0] from rfl) (Reps.one (show Kd.M (Kd.int .i64) _ _ _ 1 [.int .i64 1] from rfl) (Reps.one (show Kd.M (Kd.int .i64) _ _ _ 2 [.int .i64 2] from rfl) (Reps.one (show Kd.M (Kd.int .i64) _ _ _ 3 [.int .i64 3] from rfl) (Reps.none _ _)))))))); intro v118 w67 ho68 hb hg_ hnew_; clear hg_ hnew_; (first | rw [← Ny117.out] at ho68 | (simp only [Int.reduceToNat] at ho68; rw [← Ny117.out] at ho68)); have n0_ := Aside0.mk (Kd.R_elder' (by (with_reducible repeat (first | apply Kd.R_alloc | apply Kd.R_drewN | apply Kd.R_drew)); exact HO116.out) (Kd.R_base ho68) hb); have n1_ := Aside0.mk (Kd.R_lower (Kd.R_new' ho68 (Kd.R_lt (by (with_reducible repeat (first | apply Kd.R_alloc | apply Kd.R_drewN | apply Kd.R_drew)); exact HO116.out))) (keep_size (w := w) (g := g) (row := none) (by repeat (first | (with_reducible first | exact HK.out | apply KeepBut.set_ | apply keep_drewN | apply keep_drew | apply keep_alloc | refine keep_far ?_ GW109.out _) | exact HK.out)))); have n2_ := Aside0.mk (IsS50.below (by repeat (first | (with_reducible first | exact HI0.out | apply IsS50.alloc | apply IsS50.drewN | apply IsS50.drew | apply IsS50.set_1 | refine IsS50.far ?_ NB0_109.out _) | exact HI0.out)) hb); have n3_ := Aside0.mk (blk_below (g := gb109) (o := .cells #[.int .i64 0, .int .i64 0] 24 (0, 0)) (by (with_reducible repeat (first | refine blk_drewN ?_ _ | refine blk_drew ?_ | refine blk_alloc ?_ _)); exact BK109.out) hb); have n4_ := Aside0.mk (KeepBut.trans (by repeat (first | (with_reducible first | exact HK.out | apply KeepBut.set_ | apply keep_drewN | apply keep_drew | apply keep_alloc | refine keep_far ?_ GW109.out _) | exact HK.out)) (KeepBut.of_below hb g none) (.inl rfl)); have n5_ := Aside0.mk (below_step (by repeat (first | (with_reducible first | exact HB.out | apply below_alloc | apply pw_below_drewN | apply below_drew1 | refine below_set ?_ (IsS50.ge HI0.out) | refine below_set ?_ GE109.out) | exact HB.out)) hb); clear HO116; clear HI0; clear BK109; clear HK; clear HB; have HO116 := n0_; have HO119 := n1_; have HI0 := n2_; have BK109 := n3_; have HK := n4_; have HB := n5_; clear n0_ n1_ n2_ n3_ n4_ n5_; clear hb ho68) | ((with_reducible refine gate_callee (f := 30) rfl ?_); refine goesL_ (some 18) rfl rfl Try.func30 (by kernel_rfl) rfl #[.pointer (some ⟨g, 0, none⟩), .int .i64 6] rfl (by (try simp only [List.map_toArray, List.map_cons, List.map_nil]); first | done | rfl | (simp only [List.length_drop, List.length_take]; rfl)) ?_; (with_reducible refine (spec_l20Rd_pick.calls k g s0_0 t113 6 t120 t121 w0 _ ?side1 ?side2 A5.out).mono ?_); (case side1 => repeat (first | (with_reducible first | exact HI0.out | apply IsS50.alloc | apply IsS50.drewN | apply IsS50.drew | apply IsS50.set_1 | refine IsS50.far ?_ NB0_109.out _) | exact HI0.out)); (case side2 => repeat (first | (with_reducible first | exact HB.out | apply below_alloc | apply pw_below_drewN | apply below_drew1 | refine below_set ?_ (IsS50.ge HI0.out) | refine below_set ?_ GE109.out) | exact HB.out)); rintro e w69 ⟨rfl, hi, hb, hk⟩; refine ⟨_, rfl, ?_⟩; have n0_ := Aside0.mk (KeepBut.blk hk (g' := gb109) (o := .cells #[.int .i64 0, .int .i64 0] 24 (0, 0)) (by (with_reducible repeat (first | refine blk_drewN ?_ _ | refine blk_drew ?_ | refine blk_alloc ?_ _)); exact BK109.out) NB109_0.out (by simp)); have n1_ := Aside0.mk (Kd.R_mono (Kd.R_keep (IsS50.apart (show IsS50 w0 _ g s0_0 t113 from by repeat (first | (with_reducible first | exact HI0.out | apply IsS50.alloc | apply IsS50.drewN | apply IsS50.drew | apply IsS50.set_1 | refine IsS50.far ?_ NB0_109.out _) | exact HI0.out)) (by (with_reducible repeat (first | apply Kd.R_alloc | apply Kd.R_drewN | apply Kd.R_drew)); exact HO116.out) (by decide)) hk (fun _ h => h.2)) (fun _ h => h.1)); have n2_ := Aside0.mk (Kd.R_mono (Kd.R_keep (IsS50.apart (show IsS50 w0 _ g s0_0 t113 from by repeat (first | (with_reducible first | exact HI0.out | apply IsS50.alloc | apply IsS50.drewN | apply IsS50.drew | apply IsS50.set_1 | refine IsS50.far ?_ NB0_109.out _) | exact HI0.out)) (by (with_reducible repeat (first | apply Kd.R_alloc | apply Kd.R_drewN | apply Kd.R_drew)); exact HO119.out) (by decide)) hk (fun _ h => h.2)) (fun _ h => h.1)); have n3_ := Aside0.mk (KeepBut.trans (by repeat (first | (with_reducible first | exact HK.out | apply KeepBut.set_ | apply keep_drewN | apply keep_drew | apply keep_alloc | refine keep_far ?_ GW109.out _) | exact HK.out)) hk (.inl rfl)); have n4_ := Aside0.mk (hb); have n5_ := Aside0.mk (hi); clear BK109; clear HO116; clear HO119; clear HK; clear HB; clear HI0; have BK109 := n0_; have HO116 := n1_; have HO119 := n2_; have HK := n3_; have HB := n4_; have HI0 := n5_; clear n0_ n1_ n2_ n3_ n4_ n5_; (try clear hb); (try clear hb2); (try clear hk); (try clear hi); obtain ⟨Ao70, co70, eo70⟩ := Kd.R_slice HO119.out; subst eo70; have p122 : 0 ≤ (t120 : Int) := of_decide_eq_true (by first | (with_reducible assumption) | assumption); have q122 : t120 < (y117.length : Int) := of_decide_eq_true (by first | (with_reducible assumption) | assumption); obtain ⟨ad122, e122, hx122_0⟩ := Kd.at_int (Kd.R_reads' HO119.out).2.2 t120 p122 q122; cases e122; replace p122 := eq_true p122; replace q122 := eq_true q122; obtain ⟨Ao71, co71, eo71⟩ := Kd.R_slice HO116.out; subst eo71; have p123 : 0 ≤ ((rd y117 t120) : Int) := of_decide_eq_true (by first | (with_reducible assumption) | assumption); have q123 : (rd y117 t120) < (y114.length : Int) := of_decide_eq_true (by first | (with_reducible assumption) | assumption); obtain ⟨ad123, e123, hx123_0⟩ := Kd.at_int (Kd.R_reads' HO116.out).2.2 (rd y117 t120) p123 q123; cases e123; replace p123 := eq_true p123; replace q123 := eq_true q123))
                      have pi131 : (0 ≤ (t129 : Int)) = True := eq_true (of_decide_eq_true (by first | (with_reducible assumption) | assumption))
                      have qi131 : (t129 < (y126.length : Int)) = True := eq_true (of_decide_eq_true (by first | (with_reducible assumption) | assumption))
                      have pi137 : (0 ≤ (t135 : Int)) = True := eq_true (of_decide_eq_true (by first | (with_reducible assumption) | assumption))
                      have qi137 : (t135 < (y132.length : Int)) = True := eq_true (of_decide_eq_true (by first | (with_reducible assumption) | assumption))
                      have n0_ := Aside0.mk (Kd.R_drew HO116.out)
                      have n1_ := Aside0.mk (Kd.R_drew HO119.out)
                      have n2_ := Aside0.mk (blk_drew BK109.out)
                      have n3_ := Aside0.mk (IsS50.drew HI0.out)
                      have n4_ := Aside0.mk (keep_drew HK.out)
                      have n5_ := Aside0.mk (below_drew1 HB.out)
                      clear HO116
                      clear HO119
                      clear BK109
                      clear HI0
                      clear HK
                      clear HB
                      have HO116 := n0_
                      have HO119 := n1_
                      have BK109 := n2_
                      have HI0 := n3_
                      have HK := n4_
                      have HB := n5_
                      clear n0_ n1_ n2_ n3_ n4_ n5_
                      refine start_ (n := 14) (S := fun w' => True) (ds := []) #[false, false, false, false, false, false, false, false, false, false, false, false, false, false] (by kernel_rfl) rfl rfl trivial (fun hHeld => ?_); refine with_tabW spec_l20Fraction.tab2 spec_l20Fraction.bits2 (fun HT_ HW_ => ?_)
                      generalize w69.drew = w72 at HO116 HO119 BK109 HI0 HK HB hHeld ⊢
                      refine pure_ (i := 0) (N := some 23) (v := ?_) (a' := ?_) #[true, false, false, false, false, false, false, false, false, false, false, false, false, false] rfl rfl (any_of HT_.out (by kernel_rfl)) (fun _ _ _ h => h) (Or.inl ⟨by rfl, ?_⟩) ?_ ?_
                      rotate_left
                      · intro w'
                        go_simp
                        with_reducible rfl
                      rotate_left
                      · simp only [Act.put, List.setIfInBounds_toArray, List.set_cons_zero, List.set_cons_succ, i64_w, i32_w]
                        rfl
                      refine pure_ (i := 4) (N := some 27) (v := ?_) (a' := ?_) #[true, false, false, false, true, false, false, false, false, false, false, false, false, false] rfl rfl (any_of HT_.out (by kernel_rfl)) (fun _ _ _ h => h) (Or.inl ⟨by rfl, ?_⟩) ?_ ?_
                      rotate_left
                      · intro w'
                        go_simp
                        with_reducible rfl
                      rotate_left
                      · simp only [Act.put, List.setIfInBounds_toArray, List.set_cons_zero, List.set_cons_succ, i64_w, i32_w]
                        rfl
                      refine pure_ (i := 9) (N := some 32) (v := ?_) (a' := ?_) #[true, false, false, false, true, false, false, false, false, true, false, false, false, false] rfl rfl (any_of HT_.out (by kernel_rfl)) (fun _ _ _ h => h) (Or.inl ⟨by rfl, ?_⟩) ?_ ?_
                      rotate_left
                      · intro w'
                        go_simp
                        with_reducible rfl
                      rotate_left
                      · simp only [Act.put, List.setIfInBounds_toArray, List.set_cons_zero, List.set_cons_succ, i64_w, i32_w]
                        rfl
                      refine inv_at [1, 2, 3, 5, 6, 7, 8, 10, 11, 12, 13] (fun a0_ b a w' => ∃ (v127 : Value) (adz_v127 : Addr) (v133 : Value) (adz_v133 : Addr) (m6_ : Value) (m11_ : Value), a = putSel a0_ b [(1, 24, .int .i64 t124), (2, 25, .int .i64 (wrap64 (1 + t124))), (3, 26, v127), (5, 28, .int .i64 t129), (6, 29, m6_), (7, 30, .int .i64 (rd y126 t129)), (8, 31, v133), (10, 33, .int .i64 t135), (11, 34, m11_), (12, 35, .int .i64 (rd y132 t135)), (13, 6, .int .i64 (rd y132 t135))] ∧ (Kd.R (Kd.int .i64) 3 w' w.heap.size (fun k_ => True ∧ some k_ ≠ (.slice (some ad122) y117.length co70 : Value).ownBlock) (.slice (some ad123) y114.length co71) y114) ∧ (Kd.R (Kd.int .i64) 3 w' w.heap.size (fun k_ => True ∧ some k_ ≠ (.slice (some ad123) y114.length co71 : Value).ownBlock) (.slice (some ad122) y117.length co70) y117) ∧ (w'.heap[gb109]? = some (.cells #[.int .i64 0, .int .i64 0] 24 (0, 0))) ∧ (b 1 = false → IsS50 w0 w' g s0_0 t121) ∧ (KeepBut w w' g none) ∧ (Below w0.heap.size w0 w') ∧ (b 1 = true → b 5 = false → IsS50 w0 w' g s0_0 t125) ∧ (b 3 = true → Kd.R (Kd.int .i64) 3 w' w.heap.size (fun k_ => some k_ ≠ (.slice (some ad123) y114.length co71 : Value).ownBlock ∧ some k_ ≠ (.slice (some ad122) y117.length co70 : Value).ownBlock) v127 y126) ∧ (b 3 = true → ∃ c_, (v127 : Value) = .slice (some adz_v127) y126.length c_) ∧ (b 5 = true → b 10 = false → IsS50 w0 w' g s0_0 t130) ∧ (b 8 = true → Kd.R (Kd.int .i64) 3 w' w.heap.size (fun k_ => some k_ ≠ (.slice (some ad123) y114.length co71 : Value).ownBlock ∧ some k_ ≠ (.slice (some ad122) y117.length co70 : Value).ownBlock) v133 y132) ∧ (b 8 = true → ∃ c_, (v133 : Value) = .slice (some adz_v133) y132.length c_) ∧ (b 10 = true → IsS50 w0 w' g s0_0 t136) ∧ (b 6 = true → (m6_ : Value) = .pointer (some (adz_v127.add (t129).toNat))) ∧ (b 11 = true → (m11_ : Value) = .pointer (some (adz_v133.add (t135).toNat)))) HT_.out HW_.out (by kernel_rfl) (by kernel_rfl) ?_ ?_ ?_
                      · exact ⟨.bool false, ⟨0, 0, none⟩, .bool false, ⟨0, 0, none⟩, .bool false, .bool false, by simp only [putSel, Bool.false_eq_true, if_false], HO116.out, HO119.out, BK109.out, fun _ => HI0.out, HK.out, HB.out, fun h_ => absurd h_ (by decide), fun h_ => absurd h_ (by decide), fun h_ => absurd h_ (by decide), fun h_ => absurd h_ (by decide), fun h_ => absurd h_ (by decide), fun h_ => absurd h_ (by decide), fun h_ => absurd h_ (by decide), fun h_ => absurd h_ (by decide), fun h_ => absurd h_ (by decide)⟩
                      · skip
                        clear BK109 HB HI0 HK HO116 HO119
                        refine steps_cons ?_ ?_
                        · rintro b a w' ⟨v127, adz_v127, v133, adz_v133, m6_, m11_, ha, Q_HO116, Q_HO119, Q_BK109, Q_HI0, Q_HK, Q_HB, Q_HI0_e1, Q_HO128, Q_HA_HO128, Q_HI0_e5, Q_HO134, Q_HA_HO134, Q_HI0_e10, Q_X6_, Q_X11_⟩ hb_ hon hoff
                          refine ⟨_, rfl, fun K hK => ?_⟩
                          have e23 : a.tmps[23]? = some (.pointer (some ⟨g, 0, none⟩)) := by rw [ha]; exact (putSel_off rfl).trans rfl
                          replace ha := Aside0.mk ha
                          have HO116 := Aside0.mk Q_HO116
                          have HO119 := Aside0.mk Q_HO119
                          have BK109 := Aside0.mk Q_BK109
                          have HI0 := Aside0.mk (Q_HI0 hb_)
                          have HK := Aside0.mk Q_HK
                          have HB := Aside0.mk Q_HB
                          refine goes_ Try.func30 (by kernel_rfl) rfl #[.pointer (some ⟨g, 0, none⟩), .int .i64 9] (by rfl) rfl rfl (by first | (simp only [List.map_toArray, List.map_cons, List.map_nil, Act.eval, Array.getD_eq_getD_getElem?, Option.getD_some, e23]; done) | (simp only [List.map_toArray, List.map_cons, List.map_nil, Act.eval, Array.getD_eq_getD_getElem?, Option.getD_some, e23]; rfl)) ?_
                          with_reducible refine (spec_l20Rd_pick.calls k g s0_0 t121 9 t124 t125 w0 _ ?side1 ?side2 A10.out).mono ?_
                          (case side1 => repeat (first | (with_reducible first | exact HI0.out | apply IsS50.alloc | apply IsS50.drewN | apply IsS50.drew | apply IsS50.set_1 | refine IsS50.far ?_ NB0_109.out _) | exact HI0.out))
                          (case side2 => repeat (first | (with_reducible first | exact HB.out | apply below_alloc | apply pw_below_drewN | apply below_drew1 | refine below_set ?_ (IsS50.ge HI0.out) | refine below_set ?_ GE109.out) | exact HB.out))
                          rintro e w73 ⟨rfl, hi, hb, hk⟩
                          refine ⟨_, rfl, ?_⟩
                          have n0_ := Aside0.mk (KeepBut.blk hk (g' := gb109) (o := .cells #[.int .i64 0, .int .i64 0] 24 (0, 0)) (by (with_reducible repeat (first | refine blk_drewN ?_ _ | refine blk_drew ?_ | refine blk_alloc ?_ _)); exact BK109.out) NB109_0.out (by simp))
                          have n1_ := Aside0.mk (Kd.R_mono (Kd.R_keep (IsS50.apart (show IsS50 w0 _ g s0_0 t121 from by repeat (first | (with_reducible first | exact HI0.out | apply IsS50.alloc | apply IsS50.drewN | apply IsS50.drew | apply IsS50.set_1 | refine IsS50.far ?_ NB0_109.out _) | exact HI0.out)) (by (with_reducible repeat (first | apply Kd.R_alloc | apply Kd.R_drewN | apply Kd.R_drew)); exact HO116.out) (by decide)) hk (fun _ h => h.2)) (fun _ h => h.1))
                          have n2_ := Aside0.mk (Kd.R_mono (Kd.R_keep (IsS50.apart (show IsS50 w0 _ g s0_0 t121 from by repeat (first | (with_reducible first | exact HI0.out | apply IsS50.alloc | apply IsS50.drewN | apply IsS50.drew | apply IsS50.set_1 | refine IsS50.far ?_ NB0_109.out _) | exact HI0.out)) (by (with_reducible repeat (first | apply Kd.R_alloc | apply Kd.R_drewN | apply Kd.R_drew)); exact HO119.out) (by decide)) hk (fun _ h => h.2)) (fun _ h => h.1))
                          have n3_ := Aside0.mk (KeepBut.trans (by repeat (first | (with_reducible first | exact HK.out | apply KeepBut.set_ | apply keep_drewN | apply keep_drew | apply keep_alloc | refine keep_far ?_ GW109.out _) | exact HK.out)) hk (.inl rfl))
                          have n4_ := Aside0.mk (hb)
                          have n5_ := Aside0.mk (hi)
                          have z_HO128 := fun (h0_ : b 3 = true) => (show Kd.R (Kd.int .i64) 3 w73 w.heap.size (fun k_ => some k_ ≠ (.slice (some ad123) y114.length co71 : Value).ownBlock ∧ some k_ ≠ (.slice (some ad122) y117.length co70 : Value).ownBlock) v127 y126 from by first | exact (Kd.R_mono (Kd.R_keep (IsS50.apart (show IsS50 w0 _ g s0_0 t121 from by repeat (first | (with_reducible first | exact HI0.out | apply IsS50.alloc | apply IsS50.drewN | apply IsS50.drew | apply IsS50.set_1 | refine IsS50.far ?_ NB0_109.out _) | exact HI0.out)) (by (with_reducible repeat (first | apply Kd.R_alloc | apply Kd.R_drewN | apply Kd.R_drew)); exact (Q_HO128 h0_)) (by decide)) hk (fun _ h => h.2)) (fun _ h => h.1)) | exact Kd.R_mono (Kd.R_mono (Kd.R_keep (IsS50.apart (show IsS50 w0 _ g s0_0 t121 from by repeat (first | (with_reducible first | exact HI0.out | apply IsS50.alloc | apply IsS50.drewN | apply IsS50.drew | apply IsS50.set_1 | refine IsS50.far ?_ NB0_109.out _) | exact HI0.out)) (by (with_reducible repeat (first | apply Kd.R_alloc | apply Kd.R_drewN | apply Kd.R_drew)); exact (Q_HO128 h0_)) (by decide)) hk (fun _ h => h.2)) (fun _ h => h.1)) (fun _ h_ => by first | trivial | exact h_ | exact h_.1))
                          clear BK109
                          clear HO116
                          clear HO119
                          clear HK
                          clear HB
                          clear HI0
                          have BK109 := n0_
                          have HO116 := n1_
                          have HO119 := n2_
                          have HK := n3_
                          have HB := n4_
                          have HI0 := n5_
                          clear n0_ n1_ n2_ n3_ n4_ n5_
                          (try clear hb)
                          (try clear hb2)
                          (try clear hk)
                          (try clear hi)
                          refine hK.out _ _ ⟨v127, adz_v127, v133, adz_v133, m6_, m11_, (by rw [ha.out]; exact putSel_upk 0 hb_ rfl rfl rfl), (by (with_reducible repeat (first | apply Kd.R_alloc | apply Kd.R_drewN | apply Kd.R_drew)); exact Kd.R_mono HO116.out (fun _ hk => by first | grind | (simp only [true_and, and_assoc] at hk ⊢; grind))), (by (with_reducible repeat (first | apply Kd.R_alloc | apply Kd.R_drewN | apply Kd.R_drew)); exact Kd.R_mono HO119.out (fun _ hk => by first | grind | (simp only [true_and, and_assoc] at hk ⊢; grind))), (by (with_reducible repeat (first | refine blk_drewN ?_ _ | refine blk_drew ?_ | refine blk_alloc ?_ _)); exact BK109.out), fun h0_ => absurd ((up_self b 1).symm.trans h0_) (by decide), (by repeat (first | (with_reducible first | exact HK.out | apply KeepBut.set_ | apply keep_drewN | apply keep_drew | apply keep_alloc | refine keep_far ?_ GW109.out _) | exact HK.out)), (by repeat (first | (with_reducible first | exact HB.out | apply below_alloc | apply pw_below_drewN | apply below_drew1 | refine below_set ?_ (IsS50.ge HI0.out) | refine below_set ?_ GE109.out) | exact HB.out)), fun _ _ => (by repeat (first | (with_reducible first | exact HI0.out | apply IsS50.alloc | apply IsS50.drewN | apply IsS50.drew | apply IsS50.set_1 | refine IsS50.far ?_ NB0_109.out _) | exact HI0.out)), z_HO128, Q_HA_HO128, fun h0_ _ => absurd ((hoff 5 (by kernel_rfl)).symm.trans h0_) (by decide), fun h0_ => absurd ((hoff 8 (by kernel_rfl)).symm.trans h0_) (by decide), fun h0_ => absurd ((hoff 8 (by kernel_rfl)).symm.trans h0_) (by decide), fun h0_ => absurd ((hoff 10 (by kernel_rfl)).symm.trans h0_) (by decide), fun h0_ => absurd ((hoff 6 (by kernel_rfl)).symm.trans h0_) (by decide), fun h0_ => absurd ((hoff 11 (by kernel_rfl)).symm.trans h0_) (by decide)⟩
                        refine steps_cons ?_ ?_
                        · rintro b a w' ⟨v127, adz_v127, v133, adz_v133, m6_, m11_, ha, Q_HO116, Q_HO119, Q_BK109, Q_HI0, Q_HK, Q_HB, Q_HI0_e1, Q_HO128, Q_HA_HO128, Q_HI0_e5, Q_HO134, Q_HA_HO134, Q_HI0_e10, Q_X6_, Q_X11_⟩ hb_ hon hoff
                          refine ⟨_, rfl, fun K hK => ?_⟩
                          have e24 : a.tmps[24]? = some (.int .i64 t124) := by rw [ha]; exact putSel_on (e := (1, 24, .int .i64 t124)) 0 rfl rfl (hon 1 (by kernel_rfl)) rfl
                          replace ha := Aside0.mk ha
                          have HO116 := Aside0.mk Q_HO116
                          have HO119 := Aside0.mk Q_HO119
                          have BK109 := Aside0.mk Q_BK109
                          have HK := Aside0.mk Q_HK
                          have HB := Aside0.mk Q_HB
                          refine value_ (w1 := w') (v := .int .i64 (wrap64 (1 + t124))) (by rfl) rfl ?_ ?_
                          · go_simp
                            (try simp only [i64_w])
                            try rfl
                          refine hK.out _ _ ⟨v127, adz_v127, v133, adz_v133, m6_, m11_, (by rw [ha.out]; exact putSel_upk 1 hb_ rfl rfl rfl), Q_HO116, Q_HO119, Q_BK109, fun h0_ => absurd ((hon 1 (by kernel_rfl)).symm.trans h0_) (by decide), Q_HK, Q_HB, Q_HI0_e1, Q_HO128, Q_HA_HO128, Q_HI0_e5, fun h0_ => absurd ((hoff 8 (by kernel_rfl)).symm.trans h0_) (by decide), fun h0_ => absurd ((hoff 8 (by kernel_rfl)).symm.trans h0_) (by decide), Q_HI0_e10, Q_X6_, fun h0_ => absurd ((hoff 11 (by kernel_rfl)).symm.trans h0_) (by decide)⟩
                        refine steps_cons ?_ ?_
                        · rintro b a w' ⟨v127, adz_v127, v133, adz_v133, m6_, m11_, ha, Q_HO116, Q_HO119, Q_BK109, Q_HI0, Q_HK, Q_HB, Q_HI0_e1, Q_HO128, Q_HA_HO128, Q_HI0_e5, Q_HO134, Q_HA_HO134, Q_HI0_e10, Q_X6_, Q_X11_⟩ hb_ hon hoff
                          refine ⟨_, rfl, fun K hK => ?_⟩
                          replace ha := Aside0.mk ha
                          have HO116 := Aside0.mk Q_HO116
                          have HO119 := Aside0.mk Q_HO119
                          have BK109 := Aside0.mk Q_BK109
                          have HK := Aside0.mk Q_HK
                          have HB := Aside0.mk Q_HB
                          refine Kd.R_lit_step (Kd.int .i64) _ 3 ?hg (N := 26) ?hd (xs := ([2, 4, 10, 100, 1000, 1000000] : List Int)) (inner := [.int .i64 2, .int .i64 4, .int .i64 10, .int .i64 100, .int .i64 1000, .int .i64 1000000]) (ok := fun _ => True) (okp := fun _ => True) ?hr ?hp (fun _ hk => hk) trivial (Below.refl _ _) (Nat.le_refl _) (by simp) ?_; (case hd => rfl); (case hg => rfl); (case hr => first | (go_simp; done) | (go_simp; rfl)); (case hp => exact (Reps.one (show Kd.M (Kd.int .i64) _ _ _ 2 [.int .i64 2] from rfl) (Reps.one (show Kd.M (Kd.int .i64) _ _ _ 4 [.int .i64 4] from rfl) (Reps.one (show Kd.M (Kd.int .i64) _ _ _ 10 [.int .i64 10] from rfl) (Reps.one (show Kd.M (Kd.int .i64) _ _ _ 100 [.int .i64 100] from rfl) (Reps.one (show Kd.M (Kd.int .i64) _ _ _ 1000 [.int .i64 1000] from rfl) (Reps.one (show Kd.M (Kd.int .i64) _ _ _ 1000000 [.int .i64 1000000] from rfl) (Reps.none _ _))))))))
                          intro v127 w73 ho74 hb hg_ hnew_
                          clear hg_ hnew_
                          (first | rw [← Ny126.out] at ho74 | (simp only [Int.reduceToNat] at ho74; rw [← Ny126.out] at ho74))
                          have n0_ := Aside0.mk (Kd.R_elder' (by (with_reducible repeat (first | apply Kd.R_alloc | apply Kd.R_drewN | apply Kd.R_drew)); exact HO116.out) (Kd.R_base ho74) hb)
                          have n1_ := Aside0.mk (Kd.R_elder' (by (with_reducible repeat (first | apply Kd.R_alloc | apply Kd.R_drewN | apply Kd.R_drew)); exact HO119.out) (Kd.R_base ho74) hb)
                          have n2_ := Aside0.mk (Kd.R_lower (Kd.R_new' (Kd.R_new' ho74 (Kd.R_lt (by (with_reducible repeat (first | apply Kd.R_alloc | apply Kd.R_drewN | apply Kd.R_drew)); exact HO116.out))) (Kd.R_lt (by (with_reducible repeat (first | apply Kd.R_alloc | apply Kd.R_drewN | apply Kd.R_drew)); exact HO119.out))) (keep_size (w := w) (g := g) (row := none) (by repeat (first | (with_reducible first | exact HK.out | apply KeepBut.set_ | apply keep_drewN | apply keep_drew | apply keep_alloc | refine keep_far ?_ GW109.out _) | exact HK.out))))
                          have n4_ := Aside0.mk (blk_below (g := gb109) (o := .cells #[.int .i64 0, .int .i64 0] 24 (0, 0)) (by (with_reducible repeat (first | refine blk_drewN ?_ _ | refine blk_drew ?_ | refine blk_alloc ?_ _)); exact BK109.out) hb)
                          have n5_ := Aside0.mk (KeepBut.trans (by repeat (first | (with_reducible first | exact HK.out | apply KeepBut.set_ | apply keep_drewN | apply keep_drew | apply keep_alloc | refine keep_far ?_ GW109.out _) | exact HK.out)) (KeepBut.of_below hb g none) (.inl rfl))
                          have n6_ := Aside0.mk (below_step (by repeat (first | (with_reducible first | exact HB.out | apply below_alloc | apply pw_below_drewN | apply below_drew1 | refine below_set ?_ GE109.out) | exact HB.out)) hb)
                          have z_HI0 := fun (h0_ : b 1 = false) => (show IsS50 w0 w73 g s0_0 t121 from by first | exact (IsS50.below (by repeat (first | (with_reducible first | exact (Q_HI0 h0_) | apply IsS50.alloc | apply IsS50.drewN | apply IsS50.drew | apply IsS50.set_1 | refine IsS50.far ?_ NB0_109.out _) | exact (Q_HI0 h0_))) hb))
                          have z_HI0_e1 := fun (h0_ : b 1 = true) (h1_ : b 5 = false) => (show IsS50 w0 w73 g s0_0 t125 from by first | exact (IsS50.below (by repeat (first | (with_reducible first | exact (Q_HI0_e1 h0_ h1_) | apply IsS50.alloc | apply IsS50.drewN | apply IsS50.drew | apply IsS50.set_1 | refine IsS50.far ?_ NB0_109.out _) | exact (Q_HI0_e1 h0_ h1_))) hb))
                          have z_HI0_e5 := fun (h0_ : b 5 = true) (h1_ : b 10 = false) => (show IsS50 w0 w73 g s0_0 t130 from by first | exact (IsS50.below (by repeat (first | (with_reducible first | exact (Q_HI0_e5 h0_ h1_) | apply IsS50.alloc | apply IsS50.drewN | apply IsS50.drew | apply IsS50.set_1 | refine IsS50.far ?_ NB0_109.out _) | exact (Q_HI0_e5 h0_ h1_))) hb))
                          have z_HI0_e10 := fun (h0_ : b 10 = true) => (show IsS50 w0 w73 g s0_0 t136 from by first | exact (IsS50.below (by repeat (first | (with_reducible first | exact (Q_HI0_e10 h0_) | apply IsS50.alloc | apply IsS50.drewN | apply IsS50.drew | apply IsS50.set_1 | refine IsS50.far ?_ NB0_109.out _) | exact (Q_HI0_e10 h0_))) hb))
                          clear HO116
                          clear HO119
                          clear BK109
                          clear HK
                          clear HB
                          have HO116 := n0_
                          have HO119 := n1_
                          have HO128 := n2_
                          have BK109 := n4_
                          have HK := n5_
                          have HB := n6_
                          clear n0_ n1_ n2_ n4_ n5_ n6_
                          clear hb ho74
                          obtain ⟨Ao75, co75, eo75⟩ := Kd.R_slice HO128.out
                          subst eo75
                          obtain ⟨ado75, fo75, _⟩ := Kd.at_int (Kd.R_reads' HO128.out).2.2 0 (by decide) (by rw [Ny126.out]; simp)
                          cases fo75
                          refine hK.out _ _ ⟨.slice (some ado75) y126.length co75, ado75, v133, adz_v133, m6_, m11_, (by rw [ha.out]; exact putSel_upk 2 hb_ rfl rfl rfl), (by (with_reducible repeat (first | apply Kd.R_alloc | apply Kd.R_drewN | apply Kd.R_drew)); exact Kd.R_mono HO116.out (fun _ hk => by first | grind | (simp only [true_and, and_assoc] at hk ⊢; grind))), (by (with_reducible repeat (first | apply Kd.R_alloc | apply Kd.R_drewN | apply Kd.R_drew)); exact Kd.R_mono HO119.out (fun _ hk => by first | grind | (simp only [true_and, and_assoc] at hk ⊢; grind))), (by (with_reducible repeat (first | refine blk_drewN ?_ _ | refine blk_drew ?_ | refine blk_alloc ?_ _)); exact BK109.out), z_HI0, (by repeat (first | (with_reducible first | exact HK.out | apply KeepBut.set_ | apply keep_drewN | apply keep_drew | apply keep_alloc | refine keep_far ?_ GW109.out _) | exact HK.out)), (by repeat (first | (with_reducible first | exact HB.out | apply below_alloc | apply pw_below_drewN | apply below_drew1 | refine below_set ?_ GE109.out) | exact HB.out)), z_HI0_e1, fun _ => (by (with_reducible repeat (first | apply Kd.R_alloc | apply Kd.R_drewN | apply Kd.R_drew)); exact Kd.R_mono HO128.out (fun _ hk => by first | grind | (simp only [true_and, and_assoc] at hk ⊢; grind))), fun _ => ⟨_, rfl⟩, z_HI0_e5, fun h0_ => absurd ((hoff 8 (by kernel_rfl)).symm.trans h0_) (by decide), fun h0_ => absurd ((hoff 8 (by kernel_rfl)).symm.trans h0_) (by decide), z_HI0_e10, fun h0_ => absurd ((hoff 6 (by kernel_rfl)).symm.trans h0_) (by decide), fun h0_ => absurd ((hoff 11 (by kernel_rfl)).symm.trans h0_) (by decide)⟩
                        refine steps_cons ?_ ?_
                        · rintro b a w' ⟨v127, adz_v127, v133, adz_v133, m6_, m11_, ha, Q_HO116, Q_HO119, Q_BK109, Q_HI0, Q_HK, Q_HB, Q_HI0_e1, Q_HO128, Q_HA_HO128, Q_HI0_e5, Q_HO134, Q_HA_HO134, Q_HI0_e10, Q_X6_, Q_X11_⟩ hb_ hon hoff
                          refine ⟨_, rfl, fun K hK => ?_⟩
                          have e27 : a.tmps[27]? = some (.pointer (some ⟨g, 0, none⟩)) := by rw [ha]; exact (putSel_off rfl).trans rfl
                          replace ha := Aside0.mk ha
                          have HO116 := Aside0.mk Q_HO116
                          have HO119 := Aside0.mk Q_HO119
                          have BK109 := Aside0.mk Q_BK109
                          have HK := Aside0.mk Q_HK
                          have HB := Aside0.mk Q_HB
                          have HI0 := Aside0.mk (Q_HI0_e1 (hon 1 (by kernel_rfl)) hb_)
                          refine goes_ Try.func30 (by kernel_rfl) rfl #[.pointer (some ⟨g, 0, none⟩), .int .i64 6] (by rfl) rfl rfl (by first | (simp only [List.map_toArray, List.map_cons, List.map_nil, Act.eval, Array.getD_eq_getD_getElem?, Option.getD_some, e27]; done) | (simp only [List.map_toArray, List.map_cons, List.map_nil, Act.eval, Array.getD_eq_getD_getElem?, Option.getD_some, e27]; rfl)) ?_
                          with_reducible refine (spec_l20Rd_pick.calls k g s0_0 t125 6 t129 t130 w0 _ ?side1 ?side2 A11.out).mono ?_
                          (case side1 => repeat (first | (with_reducible first | exact HI0.out | apply IsS50.alloc | apply IsS50.drewN | apply IsS50.drew | apply IsS50.set_1 | refine IsS50.far ?_ NB0_109.out _) | exact HI0.out))
                          (case side2 => repeat (first | (with_reducible first | exact HB.out | apply below_alloc | apply pw_below_drewN | apply below_drew1 | refine below_set ?_ (IsS50.ge HI0.out) | refine below_set ?_ GE109.out) | exact HB.out))
                          rintro e w75 ⟨rfl, hi, hb, hk⟩
                          refine ⟨_, rfl, ?_⟩
                          have n0_ := Aside0.mk (KeepBut.blk hk (g' := gb109) (o := .cells #[.int .i64 0, .int .i64 0] 24 (0, 0)) (by (with_reducible repeat (first | refine blk_drewN ?_ _ | refine blk_drew ?_ | refine blk_alloc ?_ _)); exact BK109.out) NB109_0.out (by simp))
                          have n1_ := Aside0.mk (Kd.R_mono (Kd.R_keep (IsS50.apart (show IsS50 w0 _ g s0_0 t125 from by repeat (first | (with_reducible first | exact HI0.out | apply IsS50.alloc | apply IsS50.drewN | apply IsS50.drew | apply IsS50.set_1 | refine IsS50.far ?_ NB0_109.out _) | exact HI0.out)) (by (with_reducible repeat (first | apply Kd.R_alloc | apply Kd.R_drewN | apply Kd.R_drew)); exact HO116.out) (by decide)) hk (fun _ h => h.2)) (fun _ h => h.1))
                          have n2_ := Aside0.mk (Kd.R_mono (Kd.R_keep (IsS50.apart (show IsS50 w0 _ g s0_0 t125 from by repeat (first | (with_reducible first | exact HI0.out | apply IsS50.alloc | apply IsS50.drewN | apply IsS50.drew | apply IsS50.set_1 | refine IsS50.far ?_ NB0_109.out _) | exact HI0.out)) (by (with_reducible repeat (first | apply Kd.R_alloc | apply Kd.R_drewN | apply Kd.R_drew)); exact HO119.out) (by decide)) hk (fun _ h => h.2)) (fun _ h => h.1))
                          have n3_ := Aside0.mk (KeepBut.trans (by repeat (first | (with_reducible first | exact HK.out | apply KeepBut.set_ | apply keep_drewN | apply keep_drew | apply keep_alloc | refine keep_far ?_ GW109.out _) | exact HK.out)) hk (.inl rfl))
                          have n4_ := Aside0.mk (hb)
                          have n5_ := Aside0.mk (hi)
                          have z_HO128 := fun (h0_ : b 3 = true) => (show Kd.R (Kd.int .i64) 3 w75 w.heap.size (fun k_ => some k_ ≠ (.slice (some ad123) y114.length co71 : Value).ownBlock ∧ some k_ ≠ (.slice (some ad122) y117.length co70 : Value).ownBlock) v127 y126 from by first | exact (Kd.R_mono (Kd.R_keep (IsS50.apart (show IsS50 w0 _ g s0_0 t125 from by repeat (first | (with_reducible first | exact HI0.out | apply IsS50.alloc | apply IsS50.drewN | apply IsS50.drew | apply IsS50.set_1 | refine IsS50.far ?_ NB0_109.out _) | exact HI0.out)) (by (with_reducible repeat (first | apply Kd.R_alloc | apply Kd.R_drewN | apply Kd.R_drew)); exact (Q_HO128 h0_)) (by decide)) hk (fun _ h => h.2)) (fun _ h => h.1)) | exact Kd.R_mono (Kd.R_mono (Kd.R_keep (IsS50.apart (show IsS50 w0 _ g s0_0 t125 from by repeat (first | (with_reducible first | exact HI0.out | apply IsS50.alloc | apply IsS50.drewN | apply IsS50.drew | apply IsS50.set_1 | refine IsS50.far ?_ NB0_109.out _) | exact HI0.out)) (by (with_reducible repeat (first | apply Kd.R_alloc | apply Kd.R_drewN | apply Kd.R_drew)); exact (Q_HO128 h0_)) (by decide)) hk (fun _ h => h.2)) (fun _ h => h.1)) (fun _ h_ => by first | trivial | exact h_ | exact h_.1))
                          clear BK109
                          clear HO116
                          clear HO119
                          clear HK
                          clear HB
                          clear HI0
                          have BK109 := n0_
                          have HO116 := n1_
                          have HO119 := n2_
                          have HK := n3_
                          have HB := n4_
                          have HI0 := n5_
                          clear n0_ n1_ n2_ n3_ n4_ n5_
                          (try clear hb)
                          (try clear hb2)
                          (try clear hk)
                          (try clear hi)
                          refine hK.out _ _ ⟨v127, adz_v127, v133, adz_v133, m6_, m11_, (by rw [ha.out]; exact putSel_upk 3 hb_ rfl rfl rfl), (by (with_reducible repeat (first | apply Kd.R_alloc | apply Kd.R_drewN | apply Kd.R_drew)); exact HO116.out), (by (with_reducible repeat (first | apply Kd.R_alloc | apply Kd.R_drewN | apply Kd.R_drew)); exact HO119.out), (by (with_reducible repeat (first | refine blk_drewN ?_ _ | refine blk_drew ?_ | refine blk_alloc ?_ _)); exact BK109.out), fun h0_ => absurd ((hon 1 (by kernel_rfl)).symm.trans h0_) (by decide), (by repeat (first | (with_reducible first | exact HK.out | apply KeepBut.set_ | apply keep_drewN | apply keep_drew | apply keep_alloc | refine keep_far ?_ GW109.out _) | exact HK.out)), (by repeat (first | (with_reducible first | exact HB.out | apply below_alloc | apply pw_below_drewN | apply below_drew1 | refine below_set ?_ (IsS50.ge HI0.out) | refine below_set ?_ GE109.out) | exact HB.out)), fun _ h1_ => absurd ((up_self b 5).symm.trans h1_) (by decide), z_HO128, Q_HA_HO128, fun _ _ => (by repeat (first | (with_reducible first | exact HI0.out | apply IsS50.alloc | apply IsS50.drewN | apply IsS50.drew | apply IsS50.set_1 | refine IsS50.far ?_ NB0_109.out _) | exact HI0.out)), fun h0_ => absurd ((hoff 8 (by kernel_rfl)).symm.trans h0_) (by decide), fun h0_ => absurd ((hoff 8 (by kernel_rfl)).symm.trans h0_) (by decide), fun h0_ => absurd ((hoff 10 (by kernel_rfl)).symm.trans h0_) (by decide), fun h0_ => absurd ((hoff 6 (by kernel_rfl)).symm.trans h0_) (by decide), fun h0_ => absurd ((hoff 11 (by kernel_rfl)).symm.trans h0_) (by decide)⟩
                        refine steps_cons ?_ ?_
                        · rintro b a w' ⟨v127, adz_v127, v133, adz_v133, m6_, m11_, ha, Q_HO116, Q_HO119, Q_BK109, Q_HI0, Q_HK, Q_HB, Q_HI0_e1, Q_HO128, Q_HA_HO128, Q_HI0_e5, Q_HO134, Q_HA_HO134, Q_HI0_e10, Q_X6_, Q_X11_⟩ hb_ hon hoff
                          refine ⟨_, rfl, fun K hK => ?_⟩
                          have e26 : a.tmps[26]? = some (v127) := by rw [ha]; exact putSel_on (e := (3, 26, v127)) 2 rfl rfl (hon 3 (by kernel_rfl)) rfl
                          have e28 : a.tmps[28]? = some (.int .i64 t129) := by rw [ha]; exact putSel_on (e := (5, 28, .int .i64 t129)) 3 rfl rfl (hon 5 (by kernel_rfl)) rfl
                          replace ha := Aside0.mk ha
                          have HO116 := Aside0.mk Q_HO116
                          have HO119 := Aside0.mk Q_HO119
                          have BK109 := Aside0.mk Q_BK109
                          have HK := Aside0.mk Q_HK
                          have HB := Aside0.mk Q_HB
                          have HO128 := Aside0.mk (Q_HO128 (hon 3 (by kernel_rfl)))
                          have HA_HO128 := Aside0.mk (Q_HA_HO128 (hon 3 (by kernel_rfl)))
                          obtain ⟨c_, hv_⟩ := HA_HO128.out
                          rw [hv_] at e26
                          refine value_ (w1 := w') (v := .pointer (some (adz_v127.add (t129).toNat))) (by rfl) rfl ?_ ?_
                          · go_simp
                            (try simp only [i64_w])
                            try rfl
                          refine hK.out _ _ ⟨v127, adz_v127, v133, adz_v133, (.pointer (some (adz_v127.add (t129).toNat))), m11_, (by rw [ha.out]; exact putSel_upk 4 hb_ rfl rfl rfl), Q_HO116, Q_HO119, Q_BK109, fun h0_ => absurd ((hon 1 (by kernel_rfl)).symm.trans h0_) (by decide), Q_HK, Q_HB, fun _ h1_ => absurd ((hon 5 (by kernel_rfl)).symm.trans h1_) (by decide), Q_HO128, Q_HA_HO128, Q_HI0_e5, fun h0_ => absurd ((hoff 8 (by kernel_rfl)).symm.trans h0_) (by decide), fun h0_ => absurd ((hoff 8 (by kernel_rfl)).symm.trans h0_) (by decide), Q_HI0_e10, fun _ => rfl, fun h0_ => absurd ((hoff 11 (by kernel_rfl)).symm.trans h0_) (by decide)⟩
                        refine steps_cons ?_ ?_
                        · rintro b a w' ⟨v127, adz_v127, v133, adz_v133, m6_, m11_, ha, Q_HO116, Q_HO119, Q_BK109, Q_HI0, Q_HK, Q_HB, Q_HI0_e1, Q_HO128, Q_HA_HO128, Q_HI0_e5, Q_HO134, Q_HA_HO134, Q_HI0_e10, Q_X6_, Q_X11_⟩ hb_ hon hoff
                          refine ⟨_, rfl, fun K hK => ?_⟩
                          have e29 : a.tmps[29]? = some (m6_) := by rw [ha]; exact putSel_on (e := (6, 29, m6_)) 4 rfl rfl (hon 6 (by kernel_rfl)) rfl
                          rw [Q_X6_ (hon 6 (by kernel_rfl))] at e29
                          replace ha := Aside0.mk ha
                          have HO116 := Aside0.mk Q_HO116
                          have HO119 := Aside0.mk Q_HO119
                          have BK109 := Aside0.mk Q_BK109
                          have HK := Aside0.mk Q_HK
                          have HB := Aside0.mk Q_HB
                          have HO128 := Aside0.mk (Q_HO128 (hon 3 (by kernel_rfl)))
                          have HA_HO128 := Aside0.mk (Q_HA_HO128 (hon 3 (by kernel_rfl)))
                          obtain ⟨c_, hv_⟩ := HA_HO128.out
                          have hF_ := HO128.out
                          rw [hv_] at hF_
                          obtain ⟨ad_, ea_, hx_⟩ := Kd.at_int (Kd.R_reads' hF_).2.2 t129 (of_eq_true pi131) (of_eq_true qi131)
                          cases ea_
                          refine value_ (w1 := w') (v := .int .i64 (rd y126 t129)) (by rfl) rfl ?_ ?_
                          · go_simp
                            (try simp only [i64_w])
                            try rfl
                          refine hK.out _ _ ⟨v127, adz_v127, v133, adz_v133, m6_, m11_, (by rw [ha.out]; exact putSel_upk 5 hb_ rfl rfl rfl), Q_HO116, Q_HO119, Q_BK109, fun h0_ => absurd ((hon 1 (by kernel_rfl)).symm.trans h0_) (by decide), Q_HK, Q_HB, fun _ h1_ => absurd ((hon 5 (by kernel_rfl)).symm.trans h1_) (by decide), Q_HO128, Q_HA_HO128, Q_HI0_e5, fun h0_ => absurd ((hoff 8 (by kernel_rfl)).symm.trans h0_) (by decide), fun h0_ => absurd ((hoff 8 (by kernel_rfl)).symm.trans h0_) (by decide), Q_HI0_e10, Q_X6_, fun h0_ => absurd ((hoff 11 (by kernel_rfl)).symm.trans h0_) (by decide)⟩
                        refine steps_cons ?_ ?_
                        · rintro b a w' ⟨v127, adz_v127, v133, adz_v133, m6_, m11_, ha, Q_HO116, Q_HO119, Q_BK109, Q_HI0, Q_HK, Q_HB, Q_HI0_e1, Q_HO128, Q_HA_HO128, Q_HI0_e5, Q_HO134, Q_HA_HO134, Q_HI0_e10, Q_X6_, Q_X11_⟩ hb_ hon hoff
                          refine ⟨_, rfl, fun K hK => ?_⟩
                          have e25 : a.tmps[25]? = some (.int .i64 (wrap64 (1 + t124))) := by rw [ha]; exact putSel_on (e := (2, 25, .int .i64 (wrap64 (1 + t124)))) 1 rfl rfl (hon 2 (by kernel_rfl)) rfl
                          have e30 : a.tmps[30]? = some (.int .i64 (rd y126 t129)) := by rw [ha]; exact putSel_on (e := (7, 30, .int .i64 (rd y126 t129))) 5 rfl rfl (hon 7 (by kernel_rfl)) rfl
                          replace ha := Aside0.mk ha
                          have HO116 := Aside0.mk Q_HO116
                          have HO119 := Aside0.mk Q_HO119
                          have BK109 := Aside0.mk Q_BK109
                          have HK := Aside0.mk Q_HK
                          have HB := Aside0.mk Q_HB
                          have HO128 := Aside0.mk (Q_HO128 (hon 3 (by kernel_rfl)))
                          have HA_HO128 := Aside0.mk (Q_HA_HO128 (hon 3 (by kernel_rfl)))
                          obtain ⟨co79, eo79⟩ := HA_HO128.out
                          clear HA_HO128
                          subst eo79
                          refine Kd.R_lit_step (Kd.int .i64) _ 3 ?hg (N := 31) ?hd (xs := ([1, wrap64 (1 + t124), rd y126 t129, 3] : List Int)) (inner := [.int .i64 1, .int .i64 (wrap64 (1 + t124)), .int .i64 (rd y126 t129), .int .i64 3]) (ok := fun _ => True) (okp := fun _ => True) ?hr ?hp (fun _ hk => hk) trivial (Below.refl _ _) (Nat.le_refl _) (by simp) ?_; (case hd => rfl); (case hg => rfl); (case hr => first | (go_simp; done) | (go_simp; rfl)); (case hp => exact (Reps.one (show Kd.M (Kd.int .i64) _ _ _ 1 [.int .i64 1] from rfl) (Reps.one (show Kd.M (Kd.int .i64) _ _ _ (wrap64 (1 + t124)) [.int .i64 (wrap64 (1 + t124))] from rfl) (Reps.one (show Kd.M (Kd.int .i64) _ _ _ (rd y126 t129) [.int .i64 (rd y126 t129)] from rfl) (Reps.one (show Kd.M (Kd.int .i64) _ _ _ 3 [.int .i64 3] from rfl) (Reps.none _ _))))))
                          intro v133 w80 ho81 hb hg_ hnew_
                          clear hg_ hnew_
                          (first | rw [← Ny132.out] at ho81 | (simp only [Int.reduceToNat] at ho81; rw [← Ny132.out] at ho81))
                          have n0_ := Aside0.mk (Kd.R_elder' (by (with_reducible repeat (first | apply Kd.R_alloc | apply Kd.R_drewN | apply Kd.R_drew)); exact HO116.out) (Kd.R_base ho81) hb)
                          have n1_ := Aside0.mk (Kd.R_elder' (by (with_reducible repeat (first | apply Kd.R_alloc | apply Kd.R_drewN | apply Kd.R_drew)); exact HO119.out) (Kd.R_base ho81) hb)
                          have n2_ := Aside0.mk (Kd.R_elder' (by (with_reducible repeat (first | apply Kd.R_alloc | apply Kd.R_drewN | apply Kd.R_drew)); exact HO128.out) (Kd.R_base ho81) hb)
                          have n3_ := Aside0.mk (Kd.R_lower (Kd.R_new' (Kd.R_new' (Kd.R_new' ho81 (Kd.R_lt (by (with_reducible repeat (first | apply Kd.R_alloc | apply Kd.R_drewN | apply Kd.R_drew)); exact HO116.out))) (Kd.R_lt (by (with_reducible repeat (first | apply Kd.R_alloc | apply Kd.R_drewN | apply Kd.R_drew)); exact HO119.out))) (Kd.R_lt (by (with_reducible repeat (first | apply Kd.R_alloc | apply Kd.R_drewN | apply Kd.R_drew)); exact HO128.out))) (keep_size (w := w) (g := g) (row := none) (by repeat (first | (with_reducible first | exact HK.out | apply KeepBut.set_ | apply keep_drewN | apply keep_drew | apply keep_alloc | refine keep_far ?_ GW109.out _) | exact HK.out))))
                          have n5_ := Aside0.mk (blk_below (g := gb109) (o := .cells #[.int .i64 0, .int .i64 0] 24 (0, 0)) (by (with_reducible repeat (first | refine blk_drewN ?_ _ | refine blk_drew ?_ | refine blk_alloc ?_ _)); exact BK109.out) hb)
                          have n6_ := Aside0.mk (KeepBut.trans (by repeat (first | (with_reducible first | exact HK.out | apply KeepBut.set_ | apply keep_drewN | apply keep_drew | apply keep_alloc | refine keep_far ?_ GW109.out _) | exact HK.out)) (KeepBut.of_below hb g none) (.inl rfl))
                          have n7_ := Aside0.mk (below_step (by repeat (first | (with_reducible first | exact HB.out | apply below_alloc | apply pw_below_drewN | apply below_drew1 | refine below_set ?_ GE109.out) | exact HB.out)) hb)
                          have z_HI0_e5 := fun (h0_ : b 5 = true) (h1_ : b 10 = false) => (show IsS50 w0 w80 g s0_0 t130 from by first | exact (IsS50.below (by repeat (first | (with_reducible first | exact (Q_HI0_e5 h0_ h1_) | apply IsS50.alloc | apply IsS50.drewN | apply IsS50.drew | apply IsS50.set_1 | refine IsS50.far ?_ NB0_109.out _) | exact (Q_HI0_e5 h0_ h1_))) hb))
                          have z_HI0_e10 := fun (h0_ : b 10 = true) => (show IsS50 w0 w80 g s0_0 t136 from by first | exact (IsS50.below (by repeat (first | (with_reducible first | exact (Q_HI0_e10 h0_) | apply IsS50.alloc | apply IsS50.drewN | apply IsS50.drew | apply IsS50.set_1 | refine IsS50.far ?_ NB0_109.out _) | exact (Q_HI0_e10 h0_))) hb))
                          clear HO116
                          clear HO119
                          clear HO128
                          clear BK109
                          clear HK
                          clear HB
                          have HO116 := n0_
                          have HO119 := n1_
                          have HO128 := n2_
                          have HO134 := n3_
                          have BK109 := n5_
                          have HK := n6_
                          have HB := n7_
                          clear n0_ n1_ n2_ n3_ n5_ n6_ n7_
                          clear hb ho81
                          obtain ⟨Ao82, co82, eo82⟩ := Kd.R_slice HO134.out
                          subst eo82
                          obtain ⟨ado82, fo82, _⟩ := Kd.at_int (Kd.R_reads' HO134.out).2.2 0 (by decide) (by rw [Ny132.out]; simp)
                          cases fo82
                          refine hK.out _ _ ⟨.slice (some adz_v127) y126.length co79, adz_v127, .slice (some ado82) y132.length co82, ado82, m6_, m11_, (by rw [ha.out]; exact putSel_upk 6 hb_ rfl rfl rfl), (by (with_reducible repeat (first | apply Kd.R_alloc | apply Kd.R_drewN | apply Kd.R_drew)); exact Kd.R_mono HO116.out (fun _ hk => by first | grind | (simp only [true_and, and_assoc] at hk ⊢; grind))), (by (with_reducible repeat (first | apply Kd.R_alloc | apply Kd.R_drewN | apply Kd.R_drew)); exact Kd.R_mono HO119.out (fun _ hk => by first | grind | (simp only [true_and, and_assoc] at hk ⊢; grind))), (by (with_reducible repeat (first | refine blk_drewN ?_ _ | refine blk_drew ?_ | refine blk_alloc ?_ _)); exact BK109.out), fun h0_ => absurd ((hon 1 (by kernel_rfl)).symm.trans h0_) (by decide), (by repeat (first | (with_reducible first | exact HK.out | apply KeepBut.set_ | apply keep_drewN | apply keep_drew | apply keep_alloc | refine keep_far ?_ GW109.out _) | exact HK.out)), (by repeat (first | (with_reducible first | exact HB.out | apply below_alloc | apply pw_below_drewN | apply below_drew1 | refine below_set ?_ GE109.out) | exact HB.out)), fun _ h1_ => absurd ((hon 5 (by kernel_rfl)).symm.trans h1_) (by decide), fun _ => (by (with_reducible repeat (first | apply Kd.R_alloc | apply Kd.R_drewN | apply Kd.R_drew)); exact Kd.R_mono HO128.out (fun _ hk => by first | grind | (simp only [true_and, and_assoc] at hk ⊢; grind))), fun _ => ⟨_, rfl⟩, z_HI0_e5, fun _ => (by (with_reducible repeat (first | apply Kd.R_alloc | apply Kd.R_drewN | apply Kd.R_drew)); exact Kd.R_mono HO134.out (fun _ hk => by first | grind | (simp only [true_and, and_assoc] at hk ⊢; grind))), fun _ => ⟨_, rfl⟩, z_HI0_e10, Q_X6_, fun h0_ => absurd ((hoff 11 (by kernel_rfl)).symm.trans h0_) (by decide)⟩
                        refine steps_cons ?_ ?_
                        · rintro b a w' ⟨v127, adz_v127, v133, adz_v133, m6_, m11_, ha, Q_HO116, Q_HO119, Q_BK109, Q_HI0, Q_HK, Q_HB, Q_HI0_e1, Q_HO128, Q_HA_HO128, Q_HI0_e5, Q_HO134, Q_HA_HO134, Q_HI0_e10, Q_X6_, Q_X11_⟩ hb_ hon hoff
                          refine ⟨_, rfl, fun K hK => ?_⟩
                          have e32 : a.tmps[32]? = some (.pointer (some ⟨g, 0, none⟩)) := by rw [ha]; exact (putSel_off rfl).trans rfl
                          replace ha := Aside0.mk ha
                          have HO116 := Aside0.mk Q_HO116
                          have HO119 := Aside0.mk Q_HO119
                          have BK109 := Aside0.mk Q_BK109
                          have HK := Aside0.mk Q_HK
                          have HB := Aside0.mk Q_HB
                          have HI0 := Aside0.mk (Q_HI0_e5 (hon 5 (by kernel_rfl)) hb_)
                          refine goes_ Try.func30 (by kernel_rfl) rfl #[.pointer (some ⟨g, 0, none⟩), .int .i64 4] (by rfl) rfl rfl (by first | (simp only [List.map_toArray, List.map_cons, List.map_nil, Act.eval, Array.getD_eq_getD_getElem?, Option.getD_some, e32]; done) | (simp only [List.map_toArray, List.map_cons, List.map_nil, Act.eval, Array.getD_eq_getD_getElem?, Option.getD_some, e32]; rfl)) ?_
                          with_reducible refine (spec_l20Rd_pick.calls k g s0_0 t130 4 t135 t136 w0 _ ?side1 ?side2 A14.out).mono ?_
                          (case side1 => repeat (first | (with_reducible first | exact HI0.out | apply IsS50.alloc | apply IsS50.drewN | apply IsS50.drew | apply IsS50.set_1 | refine IsS50.far ?_ NB0_109.out _) | exact HI0.out))
                          (case side2 => repeat (first | (with_reducible first | exact HB.out | apply below_alloc | apply pw_below_drewN | apply below_drew1 | refine below_set ?_ (IsS50.ge HI0.out) | refine below_set ?_ GE109.out) | exact HB.out))
                          rintro e w76 ⟨rfl, hi, hb, hk⟩
                          refine ⟨_, rfl, ?_⟩
                          have n0_ := Aside0.mk (KeepBut.blk hk (g' := gb109) (o := .cells #[.int .i64 0, .int .i64 0] 24 (0, 0)) (by (with_reducible repeat (first | refine blk_drewN ?_ _ | refine blk_drew ?_ | refine blk_alloc ?_ _)); exact BK109.out) NB109_0.out (by simp))
                          have n1_ := Aside0.mk (Kd.R_mono (Kd.R_keep (IsS50.apart (show IsS50 w0 _ g s0_0 t130 from by repeat (first | (with_reducible first | exact HI0.out | apply IsS50.alloc | apply IsS50.drewN | apply IsS50.drew | apply IsS50.set_1 | refine IsS50.far ?_ NB0_109.out _) | exact HI0.out)) (by (with_reducible repeat (first | apply Kd.R_alloc | apply Kd.R_drewN | apply Kd.R_drew)); exact HO116.out) (by decide)) hk (fun _ h => h.2)) (fun _ h => h.1))
                          have n2_ := Aside0.mk (Kd.R_mono (Kd.R_keep (IsS50.apart (show IsS50 w0 _ g s0_0 t130 from by repeat (first | (with_reducible first | exact HI0.out | apply IsS50.alloc | apply IsS50.drewN | apply IsS50.drew | apply IsS50.set_1 | refine IsS50.far ?_ NB0_109.out _) | exact HI0.out)) (by (with_reducible repeat (first | apply Kd.R_alloc | apply Kd.R_drewN | apply Kd.R_drew)); exact HO119.out) (by decide)) hk (fun _ h => h.2)) (fun _ h => h.1))
                          have n3_ := Aside0.mk (KeepBut.trans (by repeat (first | (with_reducible first | exact HK.out | apply KeepBut.set_ | apply keep_drewN | apply keep_drew | apply keep_alloc | refine keep_far ?_ GW109.out _) | exact HK.out)) hk (.inl rfl))
                          have n4_ := Aside0.mk (hb)
                          have n5_ := Aside0.mk (hi)
                          have z_HO128 := fun (h0_ : b 3 = true) => (show Kd.R (Kd.int .i64) 3 w76 w.heap.size (fun k_ => some k_ ≠ (.slice (some ad123) y114.length co71 : Value).ownBlock ∧ some k_ ≠ (.slice (some ad122) y117.length co70 : Value).ownBlock) v127 y126 from by first | exact (Kd.R_mono (Kd.R_keep (IsS50.apart (show IsS50 w0 _ g s0_0 t130 from by repeat (first | (with_reducible first | exact HI0.out | apply IsS50.alloc | apply IsS50.drewN | apply IsS50.drew | apply IsS50.set_1 | refine IsS50.far ?_ NB0_109.out _) | exact HI0.out)) (by (with_reducible repeat (first | apply Kd.R_alloc | apply Kd.R_drewN | apply Kd.R_drew)); exact (Q_HO128 h0_)) (by decide)) hk (fun _ h => h.2)) (fun _ h => h.1)) | exact Kd.R_mono (Kd.R_mono (Kd.R_keep (IsS50.apart (show IsS50 w0 _ g s0_0 t130 from by repeat (first | (with_reducible first | exact HI0.out | apply IsS50.alloc | apply IsS50.drewN | apply IsS50.drew | apply IsS50.set_1 | refine IsS50.far ?_ NB0_109.out _) | exact HI0.out)) (by (with_reducible repeat (first | apply Kd.R_alloc | apply Kd.R_drewN | apply Kd.R_drew)); exact (Q_HO128 h0_)) (by decide)) hk (fun _ h => h.2)) (fun _ h => h.1)) (fun _ h_ => by first | trivial | exact h_ | exact h_.1))
                          have z_HO134 := fun (h0_ : b 8 = true) => (show Kd.R (Kd.int .i64) 3 w76 w.heap.size (fun k_ => some k_ ≠ (.slice (some ad123) y114.length co71 : Value).ownBlock ∧ some k_ ≠ (.slice (some ad122) y117.length co70 : Value).ownBlock) v133 y132 from by first | exact (Kd.R_mono (Kd.R_keep (IsS50.apart (show IsS50 w0 _ g s0_0 t130 from by repeat (first | (with_reducible first | exact HI0.out | apply IsS50.alloc | apply IsS50.drewN | apply IsS50.drew | apply IsS50.set_1 | refine IsS50.far ?_ NB0_109.out _) | exact HI0.out)) (by (with_reducible repeat (first | apply Kd.R_alloc | apply Kd.R_drewN | apply Kd.R_drew)); exact (Q_HO134 h0_)) (by decide)) hk (fun _ h => h.2)) (fun _ h => h.1)) | exact Kd.R_mono (Kd.R_mono (Kd.R_keep (IsS50.apart (show IsS50 w0 _ g s0_0 t130 from by repeat (first | (with_reducible first | exact HI0.out | apply IsS50.alloc | apply IsS50.drewN | apply IsS50.drew | apply IsS50.set_1 | refine IsS50.far ?_ NB0_109.out _) | exact HI0.out)) (by (with_reducible repeat (first | apply Kd.R_alloc | apply Kd.R_drewN | apply Kd.R_drew)); exact (Q_HO134 h0_)) (by decide)) hk (fun _ h => h.2)) (fun _ h => h.1)) (fun _ h_ => by first | trivial | exact h_ | exact h_.1))
                          clear BK109
                          clear HO116
                          clear HO119
                          clear HK
                          clear HB
                          clear HI0
                          have BK109 := n0_
                          have HO116 := n1_
                          have HO119 := n2_
                          have HK := n3_
                          have HB := n4_
                          have HI0 := n5_
                          clear n0_ n1_ n2_ n3_ n4_ n5_
                          (try clear hb)
                          (try clear hb2)
                          (try clear hk)
                          (try clear hi)
                          refine hK.out _ _ ⟨v127, adz_v127, v133, adz_v133, m6_, m11_, (by rw [ha.out]; exact putSel_upk 7 hb_ rfl rfl rfl), (by (with_reducible repeat (first | apply Kd.R_alloc | apply Kd.R_drewN | apply Kd.R_drew)); exact HO116.out), (by (with_reducible repeat (first | apply Kd.R_alloc | apply Kd.R_drewN | apply Kd.R_drew)); exact HO119.out), (by (with_reducible repeat (first | refine blk_drewN ?_ _ | refine blk_drew ?_ | refine blk_alloc ?_ _)); exact BK109.out), fun h0_ => absurd ((hon 1 (by kernel_rfl)).symm.trans h0_) (by decide), (by repeat (first | (with_reducible first | exact HK.out | apply KeepBut.set_ | apply keep_drewN | apply keep_drew | apply keep_alloc | refine keep_far ?_ GW109.out _) | exact HK.out)), (by repeat (first | (with_reducible first | exact HB.out | apply below_alloc | apply pw_below_drewN | apply below_drew1 | refine below_set ?_ (IsS50.ge HI0.out) | refine below_set ?_ GE109.out) | exact HB.out)), fun _ h1_ => absurd ((hon 5 (by kernel_rfl)).symm.trans h1_) (by decide), z_HO128, Q_HA_HO128, fun _ h1_ => absurd ((up_self b 10).symm.trans h1_) (by decide), z_HO134, Q_HA_HO134, fun _ => (by repeat (first | (with_reducible first | exact HI0.out | apply IsS50.alloc | apply IsS50.drewN | apply IsS50.drew | apply IsS50.set_1 | refine IsS50.far ?_ NB0_109.out _) | exact HI0.out)), Q_X6_, fun h0_ => absurd ((hoff 11 (by kernel_rfl)).symm.trans h0_) (by decide)⟩
                        refine steps_cons ?_ ?_
                        · rintro b a w' ⟨v127, adz_v127, v133, adz_v133, m6_, m11_, ha, Q_HO116, Q_HO119, Q_BK109, Q_HI0, Q_HK, Q_HB, Q_HI0_e1, Q_HO128, Q_HA_HO128, Q_HI0_e5, Q_HO134, Q_HA_HO134, Q_HI0_e10, Q_X6_, Q_X11_⟩ hb_ hon hoff
                          refine ⟨_, rfl, fun K hK => ?_⟩
                          have e31 : a.tmps[31]? = some (v133) := by rw [ha]; exact putSel_on (e := (8, 31, v133)) 6 rfl rfl (hon 8 (by kernel_rfl)) rfl
                          have e33 : a.tmps[33]? = some (.int .i64 t135) := by rw [ha]; exact putSel_on (e := (10, 33, .int .i64 t135)) 7 rfl rfl (hon 10 (by kernel_rfl)) rfl
                          replace ha := Aside0.mk ha
                          have HO116 := Aside0.mk Q_HO116
                          have HO119 := Aside0.mk Q_HO119
                          have BK109 := Aside0.mk Q_BK109
                          have HK := Aside0.mk Q_HK
                          have HB := Aside0.mk Q_HB
                          have HO128 := Aside0.mk (Q_HO128 (hon 3 (by kernel_rfl)))
                          have HA_HO128 := Aside0.mk (Q_HA_HO128 (hon 3 (by kernel_rfl)))
                          have HO134 := Aside0.mk (Q_HO134 (hon 8 (by kernel_rfl)))
                          have HA_HO134 := Aside0.mk (Q_HA_HO134 (hon 8 (by kernel_rfl)))
                          have HI0 := Aside0.mk (Q_HI0_e10 (hon 10 (by kernel_rfl)))
                          obtain ⟨c_, hv_⟩ := HA_HO134.out
                          rw [hv_] at e31
                          refine value_ (w1 := w') (v := .pointer (some (adz_v133.add (t135).toNat))) (by rfl) rfl ?_ ?_
                          · go_simp
                            (try simp only [i64_w])
                            try rfl
                          refine hK.out _ _ ⟨v127, adz_v127, v133, adz_v133, m6_, (.pointer (some (adz_v133.add (t135).toNat))), (by rw [ha.out]; exact putSel_upk 8 hb_ rfl rfl rfl), Q_HO116, Q_HO119, Q_BK109, fun h0_ => absurd ((hon 1 (by kernel_rfl)).symm.trans h0_) (by decide), Q_HK, Q_HB, fun _ h1_ => absurd ((hon 5 (by kernel_rfl)).symm.trans h1_) (by decide), Q_HO128, Q_HA_HO128, fun _ h1_ => absurd ((hon 10 (by kernel_rfl)).symm.trans h1_) (by decide), Q_HO134, Q_HA_HO134, Q_HI0_e10, Q_X6_, fun _ => rfl⟩
                        refine steps_cons ?_ ?_
                        · rintro b a w' ⟨v127, adz_v127, v133, adz_v133, m6_, m11_, ha, Q_HO116, Q_HO119, Q_BK109, Q_HI0, Q_HK, Q_HB, Q_HI0_e1, Q_HO128, Q_HA_HO128, Q_HI0_e5, Q_HO134, Q_HA_HO134, Q_HI0_e10, Q_X6_, Q_X11_⟩ hb_ hon hoff
                          refine ⟨_, rfl, fun K hK => ?_⟩
                          have e34 : a.tmps[34]? = some (m11_) := by rw [ha]; exact putSel_on (e := (11, 34, m11_)) 8 rfl rfl (hon 11 (by kernel_rfl)) rfl
                          rw [Q_X11_ (hon 11 (by kernel_rfl))] at e34
                          replace ha := Aside0.mk ha
                          have HO116 := Aside0.mk Q_HO116
                          have HO119 := Aside0.mk Q_HO119
                          have BK109 := Aside0.mk Q_BK109
                          have HK := Aside0.mk Q_HK
                          have HB := Aside0.mk Q_HB
                          have HO128 := Aside0.mk (Q_HO128 (hon 3 (by kernel_rfl)))
                          have HA_HO128 := Aside0.mk (Q_HA_HO128 (hon 3 (by kernel_rfl)))
                          have HO134 := Aside0.mk (Q_HO134 (hon 8 (by kernel_rfl)))
                          have HA_HO134 := Aside0.mk (Q_HA_HO134 (hon 8 (by kernel_rfl)))
                          have HI0 := Aside0.mk (Q_HI0_e10 (hon 10 (by kernel_rfl)))
                          obtain ⟨c_, hv_⟩ := HA_HO134.out
                          have hF_ := HO134.out
                          rw [hv_] at hF_
                          obtain ⟨ad_, ea_, hx_⟩ := Kd.at_int (Kd.R_reads' hF_).2.2 t135 (of_eq_true pi137) (of_eq_true qi137)
                          cases ea_
                          refine value_ (w1 := w') (v := .int .i64 (rd y132 t135)) (by rfl) rfl ?_ ?_
                          · go_simp
                            (try simp only [i64_w])
                            try rfl
                          refine hK.out _ _ ⟨v127, adz_v127, v133, adz_v133, m6_, m11_, (by rw [ha.out]; exact putSel_upk 9 hb_ rfl rfl rfl), Q_HO116, Q_HO119, Q_BK109, fun h0_ => absurd ((hon 1 (by kernel_rfl)).symm.trans h0_) (by decide), Q_HK, Q_HB, fun _ h1_ => absurd ((hon 5 (by kernel_rfl)).symm.trans h1_) (by decide), Q_HO128, Q_HA_HO128, fun _ h1_ => absurd ((hon 10 (by kernel_rfl)).symm.trans h1_) (by decide), Q_HO134, Q_HA_HO134, Q_HI0_e10, Q_X6_, Q_X11_⟩
                        refine steps_cons ?_ ?_
                        · rintro b a w' ⟨v127, adz_v127, v133, adz_v133, m6_, m11_, ha, Q_HO116, Q_HO119, Q_BK109, Q_HI0, Q_HK, Q_HB, Q_HI0_e1, Q_HO128, Q_HA_HO128, Q_HI0_e5, Q_HO134, Q_HA_HO134, Q_HI0_e10, Q_X6_, Q_X11_⟩ hb_ hon hoff
                          refine ⟨_, rfl, fun K hK => ?_⟩
                          have e35 : a.tmps[35]? = some (.int .i64 (rd y132 t135)) := by rw [ha]; exact putSel_on (e := (12, 35, .int .i64 (rd y132 t135))) 9 rfl rfl (hon 12 (by kernel_rfl)) rfl
                          replace ha := Aside0.mk ha
                          have HO116 := Aside0.mk Q_HO116
                          have HO119 := Aside0.mk Q_HO119
                          have BK109 := Aside0.mk Q_BK109
                          have HK := Aside0.mk Q_HK
                          have HB := Aside0.mk Q_HB
                          have HO128 := Aside0.mk (Q_HO128 (hon 3 (by kernel_rfl)))
                          have HA_HO128 := Aside0.mk (Q_HA_HO128 (hon 3 (by kernel_rfl)))
                          have HO134 := Aside0.mk (Q_HO134 (hon 8 (by kernel_rfl)))
                          have HA_HO134 := Aside0.mk (Q_HA_HO134 (hon 8 (by kernel_rfl)))
                          have HI0 := Aside0.mk (Q_HI0_e10 (hon 10 (by kernel_rfl)))
                          refine value_ (w1 := w') (v := .int .i64 (rd y132 t135)) (by rfl) rfl ?_ ?_
                          · go_simp
                            (try simp only [i64_w])
                            try rfl
                          refine hK.out _ _ ⟨v127, adz_v127, v133, adz_v133, m6_, m11_, (by rw [ha.out]; exact putSel_upk 10 hb_ rfl rfl rfl), Q_HO116, Q_HO119, Q_BK109, fun h0_ => absurd ((hon 1 (by kernel_rfl)).symm.trans h0_) (by decide), Q_HK, Q_HB, fun _ h1_ => absurd ((hon 5 (by kernel_rfl)).symm.trans h1_) (by decide), Q_HO128, Q_HA_HO128, fun _ h1_ => absurd ((hon 10 (by kernel_rfl)).symm.trans h1_) (by decide), Q_HO134, Q_HA_HO134, Q_HI0_e10, Q_X6_, Q_X11_⟩
                        exact steps_nil
                      rintro b a w82 hall ⟨v127, adz_v127, v133, adz_v133, m6_, m11_, ha, Q_HO116, Q_HO119, Q_BK109, Q_HI0, Q_HK, Q_HB, Q_HI0_e1, Q_HO128, Q_HA_HO128, Q_HI0_e5, Q_HO134, Q_HA_HO134, Q_HI0_e10, Q_X6_, Q_X11_⟩
                      clear BK109 HB HI0 HK HO116 HO119
                      have hb1_ := hall 1 (by kernel_rfl)
                      have hb2_ := hall 2 (by kernel_rfl)
                      have hb3_ := hall 3 (by kernel_rfl)
                      have hb5_ := hall 5 (by kernel_rfl)
                      have hb6_ := hall 6 (by kernel_rfl)
                      have hb7_ := hall 7 (by kernel_rfl)
                      have hb8_ := hall 8 (by kernel_rfl)
                      have hb10_ := hall 10 (by kernel_rfl)
                      have hb11_ := hall 11 (by kernel_rfl)
                      have hb12_ := hall 12 (by kernel_rfl)
                      have hb13_ := hall 13 (by kernel_rfl)
                      subst ha
                      obtain rfl := Q_X6_ hb6_
                      obtain rfl := Q_X11_ hb11_
                      simp only [putSel, hb1_, hb2_, hb3_, hb5_, hb6_, hb7_, hb8_, hb10_, hb11_, hb12_, hb13_, if_true, Act.put, List.setIfInBounds_toArray, List.set_cons_zero, List.set_cons_succ]
                      have HO116 := Aside0.mk Q_HO116
                      clear Q_HO116
                      have HO119 := Aside0.mk Q_HO119
                      clear Q_HO119
                      have BK109 := Aside0.mk Q_BK109
                      clear Q_BK109
                      clear Q_HI0
                      have HK := Aside0.mk Q_HK
                      clear Q_HK
                      have HB := Aside0.mk Q_HB
                      clear Q_HB
                      clear Q_HI0_e1
                      have HO128 := Aside0.mk (Q_HO128 hb3_)
                      clear Q_HO128
                      have HA_HO128 := Aside0.mk (Q_HA_HO128 hb3_)
                      clear Q_HA_HO128
                      clear Q_HI0_e5
                      have HO134 := Aside0.mk (Q_HO134 hb8_)
                      clear Q_HO134
                      have HA_HO134 := Aside0.mk (Q_HA_HO134 hb8_)
                      clear Q_HA_HO134
                      have HI0 := Aside0.mk (Q_HI0_e10 hb10_)
                      clear Q_HI0_e10
                      clear hall hb1_ hb2_ hb3_ hb5_ hb6_ hb7_ hb8_ hb10_ hb11_ hb12_ hb13_
                      obtain ⟨co83, eo83⟩ := HA_HO128.out
                      clear HA_HO128
                      subst eo83
                      obtain ⟨co84, eo84⟩ := HA_HO134.out
                      clear HA_HO134
                      subst eo84
                      try go_wp2_with (first | ((with_reducible refine gate_callee (f := 40) rfl ?_); refine goesL_ (some 38) rfl rfl Try.func40 (by kernel_rfl) rfl #[.int .i64 (rd y114 (rd y117 t120)), .int .i64 (rd y132 t135)] rfl (by (try simp only [List.map_toArray, List.map_cons, List.map_nil]); first | done | rfl | (simp only [List.length_drop, List.length_take]; rfl)) ?_; (with_reducible refine (spec_l2Gcd.calls k (rd y114 (rd y117 t120)) (rd y132 t135) t138 _ A17.out).mono ?_); rintro e w85 ⟨rfl, hb⟩; refine ⟨_, rfl, ?_⟩; have n0_ := Aside0.mk (Kd.R_below (by (with_reducible repeat (first | apply Kd.R_alloc | apply Kd.R_drewN | apply Kd.R_drew)); exact HO116.out) hb); have n1_ := Aside0.mk (Kd.R_below (by (with_reducible repeat (first | apply Kd.R_alloc | apply Kd.R_drewN | apply Kd.R_drew)); exact HO119.out) hb); have n2_ := Aside0.mk (Kd.R_below (by (with_reducible repeat (first | apply Kd.R_alloc | apply Kd.R_drewN | apply Kd.R_drew)); exact HO128.out) hb); have n3_ := Aside0.mk (Kd.R_below (by (with_reducible repeat (first | apply Kd.R_alloc | apply Kd.R_drewN | apply Kd.R_drew)); exact HO134.out) hb); have n4_ := Aside0.mk (IsS50.below (by repeat (first | (with_reducible first | exact HI0.out | apply IsS50.alloc | apply IsS50.drewN | apply IsS50.drew | apply IsS50.set_1 | refine IsS50.far ?_ NB0_109.out _) | exact HI0.out)) hb); have n5_ := Aside0.mk (blk_below (g := gb109) (o := .cells #[.int .i64 0, .int .i64 0] 24 (0, 0)) (by (with_reducible repeat (first | refine blk_drewN ?_ _ | refine blk_drew ?_ | refine blk_alloc ?_ _)); exact BK109.out) hb); have n6_ := Aside0.mk (KeepBut.trans (by repeat (first | (with_reducible first | exact HK.out | apply KeepBut.set_ | apply keep_drewN | apply keep_drew | apply keep_alloc | refine keep_far ?_ GW109.out _) | exact HK.out)) (KeepBut.of_below hb g none) (.inl rfl)); have n7_ := Aside0.mk (below_step (by repeat (first | (with_reducible first | exact HB.out | apply below_alloc | apply pw_below_drewN | apply below_drew1 | refine below_set ?_ (IsS50.ge HI0.out) | refine below_set ?_ GE109.out) | exact HB.out)) hb); clear HO116; clear HO119; clear HO128; clear HO134; clear HI0; clear BK109; clear HK; clear HB; have HO116 := n0_; have HO119 := n1_; have HO128 := n2_; have HO134 := n3_; have HI0 := n4_; have BK109 := n5_; have HK := n6_; have HB := n7_; clear n0_ n1_ n2_ n3_ n4_ n5_ n6_ n7_; (try clear hb); (try clear hb2); (try clear hk); (try clear hi)))
                      have n0_ := Aside0.mk (Kd.R_drew HO116.out)
                      have n1_ := Aside0.mk (Kd.R_drew HO119.out)
                      have n2_ := Aside0.mk (Kd.R_drew HO128.out)
                      have n3_ := Aside0.mk (Kd.R_drew HO134.out)
                      have n4_ := Aside0.mk (blk_drew BK109.out)
                      have n5_ := Aside0.mk (IsS50.drew HI0.out)
                      have n6_ := Aside0.mk (keep_drew HK.out)
                      have n7_ := Aside0.mk (below_drew1 HB.out)
                      clear HO116
                      clear HO119
                      clear HO128
                      clear HO134
                      clear BK109
                      clear HI0
                      clear HK
                      clear HB
                      have HO116 := n0_
                      have HO119 := n1_
                      have HO128 := n2_
                      have HO134 := n3_
                      have BK109 := n4_
                      have HI0 := n5_
                      have HK := n6_
                      have HB := n7_
                      clear n0_ n1_ n2_ n3_ n4_ n5_ n6_ n7_
                      refine start_ (n := 9) (S := fun w' => True) (ds := []) #[false, false, false, false, false, false, false, false, false] (by kernel_rfl) rfl rfl trivial (fun hHeld => ?_); refine with_tabW spec_l20Fraction.tab4 spec_l20Fraction.bits4 (fun HT_ HW_ => ?_)
                      generalize w85.drew = w86 at HO116 HO119 HO128 HO134 BK109 HI0 HK HB hHeld ⊢
                      refine pure_ (i := 0) (N := some 39) (v := ?_) (a' := ?_) #[true, false, false, false, false, false, false, false, false] rfl rfl (any_of HT_.out (by kernel_rfl)) (fun _ _ _ h => h) (Or.inl ⟨by rfl, ?_⟩) ?_ ?_
                      rotate_left
                      · intro w'
                        go_simp
                        with_reducible rfl
                      rotate_left
                      · simp only [Act.put, List.setIfInBounds_toArray, List.set_cons_zero, List.set_cons_succ, i64_w, i32_w]
                        rfl
                      refine pure_ (i := 1) (N := some 40) (v := ?_) (a' := ?_) #[true, true, false, false, false, false, false, false, false] rfl rfl (any_of HT_.out (by kernel_rfl)) (fun _ _ _ h => h) (Or.inl ⟨by rfl, ?_⟩) ?_ ?_
                      rotate_left
                      · intro w'
                        go_simp
                        with_reducible rfl
                      rotate_left
                      · simp only [Act.put, List.setIfInBounds_toArray, List.set_cons_zero, List.set_cons_succ, i64_w, i32_w]
                        rfl
                      refine pure_ (i := 2) (N := some 41) (v := ?_) (a' := ?_) #[true, true, true, false, false, false, false, false, false] rfl rfl (any_of HT_.out (by kernel_rfl)) (fun _ _ _ h => h) (Or.inl ⟨by rfl, ?_⟩) ?_ ?_
                      rotate_left
                      · intro w'
                        go_simp
                        with_reducible rfl
                      rotate_left
                      · simp only [Act.put, List.setIfInBounds_toArray, List.set_cons_zero, List.set_cons_succ, i64_w, i32_w]
                        rfl
                      refine pure_ (i := 3) (N := some 42) (v := ?_) (a' := ?_) #[true, true, true, true, false, false, false, false, false] rfl rfl (any_of HT_.out (by kernel_rfl)) (fun _ _ _ h => h) (Or.inl ⟨by rfl, ?_⟩) ?_ ?_
                      rotate_left
                      · intro w'
                        go_simp
                        with_reducible rfl
                      rotate_left
                      · simp only [Act.put, List.setIfInBounds_toArray, List.set_cons_zero, List.set_cons_succ, i64_w, i32_w]
                        rfl
                      refine pure_ (i := 4) (N := some 43) (v := ?_) (a' := ?_) #[true, true, true, true, true, false, false, false, false] rfl rfl (any_of HT_.out (by kernel_rfl)) (fun _ _ _ h => h) (Or.inl ⟨by rfl, ?_⟩) ?_ ?_
                      rotate_left
                      · intro w'
                        go_simp
                        with_reducible rfl
                      rotate_left
                      · simp only [Act.put, List.setIfInBounds_toArray, List.set_cons_zero, List.set_cons_succ, i64_w, i32_w]
                        rfl
                      refine pure_ (i := 5) (N := some 44) (v := ?_) (a' := ?_) #[true, true, true, true, true, true, false, false, false] rfl rfl (any_of HT_.out (by kernel_rfl)) (fun _ _ _ h => h) (Or.inl ⟨by rfl, ?_⟩) ?_ ?_
                      rotate_left
                      · intro w'
                        go_simp
                        with_reducible rfl
                      rotate_left
                      · simp only [Act.put, List.setIfInBounds_toArray, List.set_cons_zero, List.set_cons_succ, i64_w, i32_w]
                        rfl
                      refine pure_ (i := 6) (N := some 45) (v := ?_) (a' := ?_) #[true, true, true, true, true, true, true, false, false] rfl rfl (any_of HT_.out (by kernel_rfl)) (fun _ _ _ h => h) (Or.inl ⟨by rfl, ?_⟩) ?_ ?_
                      rotate_left
                      · intro w'
                        go_simp
                        with_reducible rfl
                      rotate_left
                      · simp only [Act.put, List.setIfInBounds_toArray, List.set_cons_zero, List.set_cons_succ, i64_w, i32_w]
                        rfl
                      refine one_ (i := 7) (N := some 8) #[true, true, true, true, true, true, true, true, false] rfl rfl (one_of HT_.out (by kernel_rfl)) (by decide) (fun K hK => ?_)
                      refine box_step ?hg (N := 8) ?hd (cs := #[.int .i64 0, .int .i64 0]) (t := 24) ?hr ?_; (case hd => rfl); (case hg => rfl); (case hr => first | (go_simp; done) | (go_simp; rfl))
                      intro gb139 hg w87 hbox hb
                      have n0_ := Aside0.mk (Kd.R_below (by (with_reducible repeat (first | apply Kd.R_alloc | apply Kd.R_drewN | apply Kd.R_drew)); exact HO116.out) hb)
                      have n1_ := Aside0.mk (Kd.R_below (by (with_reducible repeat (first | apply Kd.R_alloc | apply Kd.R_drewN | apply Kd.R_drew)); exact HO119.out) hb)
                      have n2_ := Aside0.mk (Kd.R_below (by (with_reducible repeat (first | apply Kd.R_alloc | apply Kd.R_drewN | apply Kd.R_drew)); exact HO128.out) hb)
                      have n3_ := Aside0.mk (Kd.R_below (by (with_reducible repeat (first | apply Kd.R_alloc | apply Kd.R_drewN | apply Kd.R_drew)); exact HO134.out) hb)
                      have n4_ := Aside0.mk (IsS50.below (by repeat (first | (with_reducible first | exact HI0.out | apply IsS50.alloc | apply IsS50.drewN | apply IsS50.drew | apply IsS50.set_1 | refine IsS50.far ?_ NB0_109.out _) | exact HI0.out)) hb)
                      have n5_ := Aside0.mk (blk_below (g := gb109) (o := .cells #[.int .i64 0, .int .i64 0] 24 (0, 0)) (by (with_reducible repeat (first | refine blk_drewN ?_ _ | refine blk_drew ?_ | refine blk_alloc ?_ _)); exact BK109.out) hb)
                      have n6_ := Aside0.mk (KeepBut.trans (by repeat (first | (with_reducible first | exact HK.out | apply KeepBut.set_ | apply keep_drewN | apply keep_drew | apply keep_alloc | refine keep_far ?_ GW109.out _) | exact HK.out)) (KeepBut.of_below hb g none) (.inl rfl))
                      have n7_ := Aside0.mk (below_step (by repeat (first | (with_reducible first | exact HB.out | apply below_alloc | apply pw_below_drewN | apply below_drew1 | refine below_set ?_ (IsS50.ge HI0.out) | refine below_set ?_ GE109.out) | exact HB.out)) hb)
                      have n8_ := Aside0.mk (hbox)
                      have n9_ := Aside0.mk ((by rw [hg]; exact (keep_size (w := w) (g := g) (row := none) (by repeat (first | (with_reducible first | exact HK.out | apply KeepBut.set_ | apply keep_drewN | apply keep_drew | apply keep_alloc | refine keep_far ?_ GW109.out _) | exact HK.out))) : w.heap.size ≤ gb139))
                      have n10_ := Aside0.mk ((Nat.le_trans HW0.out (by rw [hg]; exact (keep_size (w := w) (g := g) (row := none) (by repeat (first | (with_reducible first | exact HK.out | apply KeepBut.set_ | apply keep_drewN | apply keep_drew | apply keep_alloc | refine keep_far ?_ GW109.out _) | exact HK.out))) : w.heap.size ≤ gb139) : w0.heap.size ≤ gb139))
                      have n11_ := Aside0.mk ((by rw [hg]; exact Nat.ne_of_lt (blk_lt (g := gb109) (o := .cells #[.int .i64 0, .int .i64 0] 24 (0, 0)) (by (with_reducible repeat (first | refine blk_drewN ?_ _ | refine blk_drew ?_ | refine blk_alloc ?_ _)); exact BK109.out)) : gb109 ≠ gb139))
                      have n12_ := Aside0.mk ((by rw [hg]; exact Nat.ne_of_gt (blk_lt (g := gb109) (o := .cells #[.int .i64 0, .int .i64 0] 24 (0, 0)) (by (with_reducible repeat (first | refine blk_drewN ?_ _ | refine blk_drew ?_ | refine blk_alloc ?_ _)); exact BK109.out)) : gb139 ≠ gb109))
                      have n13_ := Aside0.mk ((by rw [hg]; exact Nat.ne_of_lt (IsS50.lt (show IsS50 w0 _ g s0_0 t136 from by repeat (first | (with_reducible first | exact HI0.out | apply IsS50.alloc | apply IsS50.drewN | apply IsS50.drew | apply IsS50.set_1 | refine IsS50.far ?_ NB0_109.out _) | exact HI0.out))) : g ≠ gb139))
                      have n14_ := Aside0.mk ((by rw [hg]; exact Nat.ne_of_gt (IsS50.lt (show IsS50 w0 _ g s0_0 t136 from by repeat (first | (with_reducible first | exact HI0.out | apply IsS50.alloc | apply IsS50.drewN | apply IsS50.drew | apply IsS50.set_1 | refine IsS50.far ?_ NB0_109.out _) | exact HI0.out))) : gb139 ≠ g))
                      clear HO116
                      clear HO119
                      clear HO128
                      clear HO134
                      clear HI0
                      clear BK109
                      clear HK
                      clear HB
                      have HO116 := n0_
                      have HO119 := n1_
                      have HO128 := n2_
                      have HO134 := n3_
                      have HI0 := n4_
                      have BK109 := n5_
                      have HK := n6_
                      have HB := n7_
                      have BK139 := n8_
                      have GW139 := n9_
                      have GE139 := n10_
                      have NB109_139 := n11_
                      have NB139_109 := n12_
                      have NB0_139 := n13_
                      have NB139_0 := n14_
                      clear n0_ n1_ n2_ n3_ n4_ n5_ n6_ n7_ n8_ n9_ n10_ n11_ n12_ n13_ n14_
                      clear hb hbox hg
                      refine hK.out _ _ trivial (fun hHeld => ?_)
                      clear hK K
                      refine norm_ (a' := ?_) ?_ ?_
                      rotate_left
                      · show Act.put _ (some 8) _ = _
                        simp only [Act.put, List.setIfInBounds_toArray, List.set_cons_zero, List.set_cons_succ, i64_w, i32_w]
                        rfl
                      refine one_ (i := 8) (N := none) #[true, true, true, true, true, true, true, true, true] rfl rfl (one_of HT_.out (by kernel_rfl)) (by decide) (fun K hK => ?_)
                      have hs88 : w87.cell? ⟨gb139, 0, none⟩ = some (.int .i64 0) := (blk_cell BK139.out 0).trans rfl
                      have hfs88 := blk_frozen BK139.out 0
                      have hns88_0 := NB109_139.out
                      have hms88_0 := NB139_109.out
                      have hs89 : w87.cell? ⟨gb139, 1, none⟩ = some (.int .i64 0) := (blk_cell BK139.out 1).trans rfl
                      have hfs89 := blk_frozen BK139.out 1
                      have hns89_0 := NB109_139.out
                      have hms89_0 := NB139_109.out
                      refine skip_ (w1 := ?_) (by rfl) rfl ?_ ?_
                      rotate_left
                      · go_simp
                        rfl
                      refine hK.out _ _ trivial (fun hHeld => ?_)
                      clear hK K
                      refine done_ (done_of HT_.out (by kernel_rfl)) ?_
                      try go_wp2_with (first | ((with_reducible refine gate_callee (f := 38) rfl ?_); refine goesL_ (some 48) rfl rfl Try.func38 (by kernel_rfl) rfl #[.pointer (some ⟨g, 0, none⟩), .int .i64 a1] rfl (by (try simp only [List.map_toArray, List.map_cons, List.map_nil]); first | done | rfl | (simp only [List.length_drop, List.length_take]; rfl)) ?_; (with_reducible refine (spec_l20Rd_odd.calls k g s0_0 t136 a1 false t141 w0 _ ?side1 ?side2 A19.out).mono ?_); (case side1 => repeat (first | (with_reducible first | exact HI0.out | apply IsS50.alloc | apply IsS50.drewN | apply IsS50.drew | apply IsS50.set_1 | refine IsS50.far ?_ NB0_109.out _ | refine IsS50.far ?_ NB0_139.out _) | exact HI0.out)); (case side2 => repeat (first | (with_reducible first | exact HB.out | apply below_alloc | apply pw_below_drewN | apply below_drew1 | refine below_set ?_ (IsS50.ge HI0.out) | refine below_set ?_ GE109.out | refine below_set ?_ GE139.out) | exact HB.out)); rintro e w90 ⟨rfl, hi, hb, hk⟩; refine ⟨_, rfl, ?_⟩; have n0_ := Aside0.mk (KeepBut.blk hk (g' := gb109) (o := .cells #[.int .i64 0, .int .i64 0] 24 (0, 0)) (by (with_reducible repeat (first | refine blk_drewN ?_ _ | refine blk_drew ?_ | refine blk_alloc ?_ _)); refine blk_far ?_ NB109_139.out _; (with_reducible repeat (first | refine blk_drewN ?_ _ | refine blk_drew ?_ | refine blk_alloc ?_ _)); refine blk_far ?_ NB109_139.out _; (with_reducible repeat (first | refine blk_drewN ?_ _ | refine blk_drew ?_ | refine blk_alloc ?_ _)); exact BK109.out) NB109_0.out (by simp)); have n1_ := Aside0.mk (Kd.R_mono (Kd.R_keep (IsS50.apart (show IsS50 w0 _ g s0_0 t136 from by repeat (first | (with_reducible first | exact HI0.out | apply IsS50.alloc | apply IsS50.drewN | apply IsS50.drew | apply IsS50.set_1 | refine IsS50.far ?_ NB0_109.out _ | refine IsS50.far ?_ NB0_139.out _) | exact HI0.out)) (by (with_reducible repeat (first | apply Kd.R_alloc | apply Kd.R_drewN | apply Kd.R_drew)); exact (Kd.R_mono (Kd.R_far (p := ⟨gb139, 1, none⟩) (Kd.R_far (p := ⟨gb139, 0, none⟩) (Kd.R_types HO116.out BK139.out (by decide)) (fun _ hk => hk.2) (.int .i64 (wrap64 (Int.tdiv (rd y114 (rd y117 t120)) t138)))) (fun _ hk => hk.2) (.int .i64 (wrap64 (Int.tdiv (rd y132 t135) t138)))) (fun _ h_ => h_.1))) (by decide)) hk (fun _ h => h.2)) (fun _ h => h.1)); have n2_ := Aside0.mk (Kd.R_mono (Kd.R_keep (IsS50.apart (show IsS50 w0 _ g s0_0 t136 from by repeat (first | (with_reducible first | exact HI0.out | apply IsS50.alloc | apply IsS50.drewN | apply IsS50.drew | apply IsS50.set_1 | refine IsS50.far ?_ NB0_109.out _ | refine IsS50.far ?_ NB0_139.out _) | exact HI0.out)) (by (with_reducible repeat (first | apply Kd.R_alloc | apply Kd.R_drewN | apply Kd.R_drew)); exact (Kd.R_mono (Kd.R_far (p := ⟨gb139, 1, none⟩) (Kd.R_far (p := ⟨gb139, 0, none⟩) (Kd.R_types HO119.out BK139.out (by decide)) (fun _ hk => hk.2) (.int .i64 (wrap64 (Int.tdiv (rd y114 (rd y117 t120)) t138)))) (fun _ hk => hk.2) (.int .i64 (wrap64 (Int.tdiv (rd y132 t135) t138)))) (fun _ h_ => h_.1))) (by decide)) hk (fun _ h => h.2)) (fun _ h => h.1)); have n3_ := Aside0.mk (Kd.R_mono (Kd.R_keep (IsS50.apart (show IsS50 w0 _ g s0_0 t136 from by repeat (first | (with_reducible first | exact HI0.out | apply IsS50.alloc | apply IsS50.drewN | apply IsS50.drew | apply IsS50.set_1 | refine IsS50.far ?_ NB0_109.out _ | refine IsS50.far ?_ NB0_139.out _) | exact HI0.out)) (by (with_reducible repeat (first | apply Kd.R_alloc | apply Kd.R_drewN | apply Kd.R_drew)); exact (Kd.R_mono (Kd.R_far (p := ⟨gb139, 1, none⟩) (Kd.R_far (p := ⟨gb139, 0, none⟩) (Kd.R_types HO128.out BK139.out (by decide)) (fun _ hk => hk.2) (.int .i64 (wrap64 (Int.tdiv (rd y114 (rd y117 t120)) t138)))) (fun _ hk => hk.2) (.int .i64 (wrap64 (Int.tdiv (rd y132 t135) t138)))) (fun _ h_ => h_.1))) (by decide)) hk (fun _ h => h.2)) (fun _ h => h.1)); have n4_ := Aside0.mk (Kd.R_mono (Kd.R_keep (IsS50.apart (show IsS50 w0 _ g s0_0 t136 from by repeat (first | (with_reducible first | exact HI0.out | apply IsS50.alloc | apply IsS50.drewN | apply IsS50.drew | apply IsS50.set_1 | refine IsS50.far ?_ NB0_109.out _ | refine IsS50.far ?_ NB0_139.out _) | exact HI0.out)) (by (with_reducible repeat (first | apply Kd.R_alloc | apply Kd.R_drewN | apply Kd.R_drew)); exact (Kd.R_mono (Kd.R_far (p := ⟨gb139, 1, none⟩) (Kd.R_far (p := ⟨gb139, 0, none⟩) (Kd.R_types HO134.out BK139.out (by decide)) (fun _ hk => hk.2) (.int .i64 (wrap64 (Int.tdiv (rd y114 (rd y117 t120)) t138)))) (fun _ hk => hk.2) (.int .i64 (wrap64 (Int.tdiv (rd y132 t135) t138)))) (fun _ h_ => h_.1))) (by decide)) hk (fun _ h => h.2)) (fun _ h => h.1)); have n5_ := Aside0.mk (KeepBut.blk hk (g' := gb139) (o := .cells #[.int .i64 (wrap64 (Int.tdiv (rd y114 (rd y117 t120)) t138)), .int .i64 (wrap64 (Int.tdiv (rd y132 t135) t138))] 24 (0, 0)) (by (with_reducible repeat (first | refine blk_drewN ?_ _ | refine blk_drew ?_ | refine blk_alloc ?_ _)); refine blk_put (cs := #[.int .i64 (wrap64 (Int.tdiv (rd y114 (rd y117 t120)) t138)), .int .i64 0]) ?_ 1 _ rfl; (with_reducible repeat (first | refine blk_drewN ?_ _ | refine blk_drew ?_ | refine blk_alloc ?_ _)); refine blk_put (cs := #[.int .i64 0, .int .i64 0]) ?_ 0 _ rfl; (with_reducible repeat (first | refine blk_drewN ?_ _ | refine blk_drew ?_ | refine blk_alloc ?_ _)); exact BK139.out) NB139_0.out (by simp)); have n6_ := Aside0.mk (KeepBut.trans (by repeat (first | (with_reducible first | exact HK.out | apply KeepBut.set_ | apply keep_drewN | apply keep_drew | apply keep_alloc | refine keep_far ?_ GW109.out _ | refine keep_far ?_ GW139.out _) | exact HK.out)) hk (.inl rfl)); have n7_ := Aside0.mk (hb); have n8_ := Aside0.mk (hi); clear BK109; clear HO116; clear HO119; clear HO128; clear HO134; clear BK139; clear HK; clear HB; clear HI0; have BK109 := n0_; have HO116 := n1_; have HO119 := n2_; have HO128 := n3_; have HO134 := n4_; have BK139 := n5_; have HK := n6_; have HB := n7_; have HI0 := n8_; clear n0_ n1_ n2_ n3_ n4_ n5_ n6_ n7_ n8_; (try clear hb); (try clear hb2); (try clear hk); (try clear hi); have hnb91 := NB139_109.out; have hnc91 := NB109_139.out; have hnb92 := NB139_0.out; have hnc92 := NB0_139.out; have hcz93_0 : w90.cell? ⟨gb139, 0, none⟩ = some (.int .i64 (wrap64 (Int.tdiv (rd y114 (rd y117 t120)) t138))) := (blk_cell BK139.out 0).trans rfl; have hcz93_1 : w90.cell? ⟨gb139, 1, none⟩ = some (.int .i64 (wrap64 (Int.tdiv (rd y132 t135) t138))) := (blk_cell BK139.out 1).trans rfl; have hfz93_0 := blk_frozen BK139.out 0; have hfz93_1 := blk_frozen BK139.out 1; have hnb94 := NB109_0.out; have hnc94 := NB0_109.out; have hcz95_0 : w90.cell? ⟨gb109, 0, none⟩ = some (.int .i64 0) := (blk_cell BK109.out 0).trans rfl; have hcz95_1 : w90.cell? ⟨gb109, 1, none⟩ = some (.int .i64 0) := (blk_cell BK109.out 1).trans rfl; have hfz95_0 := blk_frozen BK109.out 0; have hfz95_1 := blk_frozen BK109.out 1))
                      refine bodyPost_ret (results_cell_row rfl _ _ gb109 24 #[.int .i64 (wrap64 (Int.tdiv (rd y114 (rd y117 t120)) t138)), .int .i64 (wrap64 (Int.tdiv (rd y132 t135) t138))] (0, 0) _ rfl (by (with_reducible repeat (first | refine blk_drewN ?_ _ | refine blk_drew ?_ | refine blk_alloc ?_ _)); refine blk_put (cs := #[.int .i64 (wrap64 (Int.tdiv (rd y114 (rd y117 t120)) t138)), .int .i64 0]) ?_ 1 _ rfl; (with_reducible repeat (first | refine blk_drewN ?_ _ | refine blk_drew ?_ | refine blk_alloc ?_ _)); refine blk_put (cs := #[.int .i64 0, .int .i64 0]) ?_ 0 _ rfl; (with_reducible repeat (first | refine blk_drewN ?_ _ | refine blk_drew ?_ | refine blk_alloc ?_ _)); exact BK109.out) Try.underlying24 rfl (by kernel_rfl)) rfl ?_
                      exact ⟨by first | rfl | (simp [errW_none, errW_some] <;> rfl) | (simp [*, errW_none, errW_some] <;> rfl), by repeat (first | (with_reducible first | exact HI0.out | apply IsS50.alloc | apply IsS50.drewN | apply IsS50.drew | apply IsS50.set_1 | refine IsS50.far ?_ NB0_109.out _ | refine IsS50.far ?_ NB0_139.out _) | exact HI0.out), by repeat (first | (with_reducible first | exact HB.out | apply below_alloc | apply pw_below_drewN | apply below_drew1 | refine below_set ?_ (IsS50.ge HI0.out) | refine below_set ?_ GE109.out | refine below_set ?_ GE139.out) | exact HB.out), by repeat (first | (with_reducible first | exact HK.out | apply KeepBut.set_ | apply keep_drewN | apply keep_drew | apply keep_alloc | refine keep_far ?_ GW109.out _ | refine keep_far ?_ GW139.out _) | exact HK.out)⟩
                · rw [if_neg c16] at H
                  exact absurd H (by simp)
              · rw [if_neg c15] at H
                exact absurd H (by simp)
            · rw [if_neg c13] at H
              exact absurd H (by simp)
          · rw [if_neg c12] at H
            exact absurd H (by simp)
        · rw [if_neg c9] at H
          exact absurd H (by simp)
      · rw [if_neg c8] at H
        exact absurd H (by simp)
    · rw [if_neg c7] at H
      exact absurd H (by simp)
  · rw [if_neg c6] at H
    exact absurd H (by simp)

end Go.Proofs.Ytahjhpkaicpioaa.PFnFractionOrder
