-- Written for this session by its program hprint.py over the kit's print: functions, and contracts that the walk of the Go code proves.
import Derived.Test.YtahjhpkaicpioaaPFnDivFractionsx0
import Derived.Test.YtahjhpkaicpioaaPFnDivFractionsx3
namespace Go.Proofs.Ytahjhpkaicpioaa.PFnDivFractions
open Go.RowKit Go.Proofs.YtahjhpkaicpioaaW.PrintWords Go.Proofs.YtahjhpkaicpioaaW.PrintLast Go.Proofs.YtahjhpkaicpioaaW.PrintMore
attribute [local go_sem] max2_int min2_int max_two min_two max_three min_three max_four min_four   -- for this text's walks alone
set_option linter.unusedVariables false
set_option linter.unusedSimpArgs false

/-! ### spec_l20Fraction: function 29 -/
def spec_l20Fraction.f (k : Nat) (s0_0 : List Int) (s0_1 : Int) (a1 : Int) : Option (Int × Int × Int) := (spec_l20Rd_pick.f k s0_0 s0_1 24).bind fun bt136 => ((spec_l20Rd_pick.f k s0_0 bt136.2 256).bind fun bt138 => ((some (([wrap64 (bt136.1 - 12), wrap64 (bt138.1 * 999), 1000000000, (-1000000000)] : List Int) : List Int)).bind fun y140 => ((some (([0, 0, 0, 1, 2, 3] : List Int) : List Int)).bind fun y143 => ((spec_l20Rd_pick.f k s0_0 bt138.2 6).bind fun bt146 => (if 0 ≤ bt146.1 then (if bt146.1 < (y143.length : Int) then (if 0 ≤ (rd y143 bt146.1) then (if (rd y143 bt146.1) < (y140.length : Int) then ((spec_l20Rd_pick.f k s0_0 bt146.2 9).bind fun bt150 => ((some (([2, 4, 10, 100, 1000, 1000000] : List Int) : List Int)).bind fun y152 => ((spec_l20Rd_pick.f k s0_0 bt150.2 6).bind fun bt155 => (if 0 ≤ bt155.1 then (if bt155.1 < (y152.length : Int) then ((some (([1, wrap64 (1 + bt150.1), rd y152 bt155.1, 3] : List Int) : List Int)).bind fun y158 => ((spec_l20Rd_pick.f k s0_0 bt155.2 4).bind fun bt161 => (if 0 ≤ bt161.1 then (if bt161.1 < (y158.length : Int) then ((spec_l2Gcd.f k (rd y140 (rd y143 bt146.1)) (rd y158 bt161.1)).bind fun t164 => (if t164 = 0 then (none) else ((spec_l20Rd_odd.f k s0_0 bt161.2 a1).bind fun bt166 => (if bt166.1 = true then ((some (([(⟨2, 4⟩ : S24), (⟨1, 0⟩ : S24), (⟨1000000001, 1⟩ : S24), (⟨1, 1000001⟩ : S24), (⟨1, (-1)⟩ : S24), (⟨0, 0⟩ : S24)] : List (S24)) : List (S24))).bind fun y168 => ((spec_l20Rd_pick.f k s0_0 bt166.2 6).bind fun bt171 => (if 0 ≤ bt171.1 then (if bt171.1 < (y168.length : Int) then (some ((rd_T24 y168 bt171.1).f0, (rd_T24 y168 bt171.1).f1, bt171.2)) else (none)) else (none)))) else (some (wrap64 (Int.tdiv (rd y140 (rd y143 bt146.1)) t164), wrap64 (Int.tdiv (rd y158 bt161.1) t164), bt166.2)))))) else (none)) else (none)))) else (none)) else (none))))) else (none)) else (none)) else (none)) else (none))))))
theorem spec_l20Fraction.mono : ∀ a0 a1 a2 k, LeO (spec_l20Fraction.f k a0 a1 a2) (spec_l20Fraction.f (k + 1) a0 a1 a2) := by
  intro a0 a1 a2 k
  unfold spec_l20Fraction.f
  repeat' first
      | (with_reducible exact spec_l20Rd_odd.mono _ _ _ _)
      | (with_reducible exact spec_l20Rd_pick.mono _ _ _ _)
      | (with_reducible exact spec_l2Gcd.mono _ _ _)
      | (with_reducible exact LeO.refl _)
      | (with_reducible exact LeO.none _)
      | (with_reducible refine LeO.ite ?_ ?_)
      | (with_reducible refine LeO.bind ?_ (fun _ => ?_))
      | exact spec_l20Rd_odd.mono _ _ _ _
      | exact spec_l20Rd_pick.mono _ _ _ _
      | exact spec_l2Gcd.mono _ _ _
      | exact LeO.none _
      | refine LeO.ite ?_ ?_
      | refine LeO.bind ?_ (fun _ => ?_)
def spec_l20Fraction.T2 : Bool × List (List Nat × List Nat) := (true, [([], []), ([0], [0]), ([1], [1]), ([], []), ([], []), ([4, 1], [4]), ([3, 5], [3, 5]), ([6], [6]), ([2, 7], [2, 7]), ([], []), ([9, 5], [9]), ([8, 10], [8, 10]), ([11], [11]), ([12, 10, 0, 1, 2, 3, 4, 5, 6, 7, 8, 9, 10, 11, 12], [12])])
def spec_l20Fraction.B2 : List Nat := [0, 1, 3, 0, 0, 19, 59, 123, 255, 0, 563, 2047, 4095, 8191]
theorem spec_l20Fraction.tab2 : rtab .any (opsOf Try.f29 2) = spec_l20Fraction.T2 := by kernel_rfl
theorem spec_l20Fraction.bits2 : waitsOk spec_l20Fraction.T2.2 spec_l20Fraction.B2 = true := by kernel_rfl
def spec_l20Fraction.T4 : Bool × List (List Nat × List Nat) := (true, [([], []), ([], []), ([0, 1], [0, 1]), ([], []), ([], []), ([3, 4], [3, 4]), ([2, 5], [2, 5]), ([], []), ([7, 6, 0, 1, 2, 3, 4, 5, 6, 7], [6, 7])])
def spec_l20Fraction.B4 : List Nat := [0, 0, 3, 0, 0, 24, 63, 0, 255]
theorem spec_l20Fraction.tab4 : rtab .any (opsOf Try.f29 4) = spec_l20Fraction.T4 := by kernel_rfl
theorem spec_l20Fraction.bits4 : waitsOk spec_l20Fraction.T4.2 spec_l20Fraction.B4 = true := by kernel_rfl
set_option maxHeartbeats 8000000 in
set_option maxRecDepth 100000 in
theorem spec_l20Fraction.calls (k : Nat) (g : Nat) (s0_0 : List Int) (s0_1 : Int) (a1 : Int) (r1 : Int) (r2 : Int) (r3 : Int) (w0 w : World) (hI : IsS50 w0 w g s0_0 s0_1) (hB : Below w0.heap.size w0 w) (h : spec_l20Fraction.f k s0_0 s0_1 a1 = some (r1, r2, r3)) :
    Calls Try.prog 29 #[.pointer (some ⟨g, 0, none⟩), .int .i64 a1] w fun e w' => e = .returned (.agg #[.int .i64 r1, .int .i64 r2]) ∧ IsS50 w0 w' g s0_0 r3 ∧ Below w0.heap.size w0 w' ∧ KeepBut w w' g none := by
  have hu24 := Try.underlying24
  have HI0 := Aside0.mk hI
  have HK := Aside0.mk (KeepBut.refl w g none)
  have HL := Aside0.mk hB.size
  clear hI
  have HW0 := Aside0.mk hB.size
  have HB := Aside0.mk hB
  clear hB
  have H : ((spec_l20Rd_pick.f k s0_0 s0_1 24).bind fun bt136 => ((spec_l20Rd_pick.f k s0_0 bt136.2 256).bind fun bt138 => ((some (([wrap64 (bt136.1 - 12), wrap64 (bt138.1 * 999), 1000000000, (-1000000000)] : List Int) : List Int)).bind fun y140 => ((some (([0, 0, 0, 1, 2, 3] : List Int) : List Int)).bind fun y143 => ((spec_l20Rd_pick.f k s0_0 bt138.2 6).bind fun bt146 => (if 0 ≤ bt146.1 then (if bt146.1 < (y143.length : Int) then (if 0 ≤ (rd y143 bt146.1) then (if (rd y143 bt146.1) < (y140.length : Int) then ((spec_l20Rd_pick.f k s0_0 bt146.2 9).bind fun bt150 => ((some (([2, 4, 10, 100, 1000, 1000000] : List Int) : List Int)).bind fun y152 => ((spec_l20Rd_pick.f k s0_0 bt150.2 6).bind fun bt155 => (if 0 ≤ bt155.1 then (if bt155.1 < (y152.length : Int) then ((some (([1, wrap64 (1 + bt150.1), rd y152 bt155.1, 3] : List Int) : List Int)).bind fun y158 => ((spec_l20Rd_pick.f k s0_0 bt155.2 4).bind fun bt161 => (if 0 ≤ bt161.1 then (if bt161.1 < (y158.length : Int) then ((spec_l2Gcd.f k (rd y140 (rd y143 bt146.1)) (rd y158 bt161.1)).bind fun t164 => (if t164 = 0 then (none) else ((spec_l20Rd_odd.f k s0_0 bt161.2 a1).bind fun bt166 => (if bt166.1 = true then ((some (([(⟨2, 4⟩ : S24), (⟨1, 0⟩ : S24), (⟨1000000001, 1⟩ : S24), (⟨1, 1000001⟩ : S24), (⟨1, (-1)⟩ : S24), (⟨0, 0⟩ : S24)] : List (S24)) : List (S24))).bind fun y168 => ((spec_l20Rd_pick.f k s0_0 bt166.2 6).bind fun bt171 => (if 0 ≤ bt171.1 then (if bt171.1 < (y168.length : Int) then (some ((rd_T24 y168 bt171.1).f0, (rd_T24 y168 bt171.1).f1, bt171.2)) else (none)) else (none)))) else (some (wrap64 (Int.tdiv (rd y140 (rd y143 bt146.1)) t164), wrap64 (Int.tdiv (rd y158 bt161.1) t164), bt166.2)))))) else (none)) else (none)))) else (none)) else (none))))) else (none)) else (none)) else (none)) else (none))))))) = some (r1, r2, r3) := h
  clear h
  replace H := Option.bind_eq_some_iff.mp H
  obtain ⟨⟨t136, t137⟩, A30, H⟩ := H
  replace H : ((spec_l20Rd_pick.f k s0_0 t137 256).bind fun bt138 => ((some (([wrap64 (t136 - 12), wrap64 (bt138.1 * 999), 1000000000, (-1000000000)] : List Int) : List Int)).bind fun y140 => ((some (([0, 0, 0, 1, 2, 3] : List Int) : List Int)).bind fun y143 => ((spec_l20Rd_pick.f k s0_0 bt138.2 6).bind fun bt146 => (if 0 ≤ bt146.1 then (if bt146.1 < (y143.length : Int) then (if 0 ≤ (rd y143 bt146.1) then (if (rd y143 bt146.1) < (y140.length : Int) then ((spec_l20Rd_pick.f k s0_0 bt146.2 9).bind fun bt150 => ((some (([2, 4, 10, 100, 1000, 1000000] : List Int) : List Int)).bind fun y152 => ((spec_l20Rd_pick.f k s0_0 bt150.2 6).bind fun bt155 => (if 0 ≤ bt155.1 then (if bt155.1 < (y152.length : Int) then ((some (([1, wrap64 (1 + bt150.1), rd y152 bt155.1, 3] : List Int) : List Int)).bind fun y158 => ((spec_l20Rd_pick.f k s0_0 bt155.2 4).bind fun bt161 => (if 0 ≤ bt161.1 then (if bt161.1 < (y158.length : Int) then ((spec_l2Gcd.f k (rd y140 (rd y143 bt146.1)) (rd y158 bt161.1)).bind fun t164 => (if t164 = 0 then (none) else ((spec_l20Rd_odd.f k s0_0 bt161.2 a1).bind fun bt166 => (if bt166.1 = true then ((some (([(⟨2, 4⟩ : S24), (⟨1, 0⟩ : S24), (⟨1000000001, 1⟩ : S24), (⟨1, 1000001⟩ : S24), (⟨1, (-1)⟩ : S24), (⟨0, 0⟩ : S24)] : List (S24)) : List (S24))).bind fun y168 => ((spec_l20Rd_pick.f k s0_0 bt166.2 6).bind fun bt171 => (if 0 ≤ bt171.1 then (if bt171.1 < (y168.length : Int) then (some ((rd_T24 y168 bt171.1).f0, (rd_T24 y168 bt171.1).f1, bt171.2)) else (none)) else (none)))) else (some (wrap64 (Int.tdiv (rd y140 (rd y143 bt146.1)) t164), wrap64 (Int.tdiv (rd y158 bt161.1) t164), bt166.2)))))) else (none)) else (none)))) else (none)) else (none))))) else (none)) else (none)) else (none)) else (none)))))) = some (r1, r2, r3) := H
  have A3 := Aside0.mk A30
  clear A30
  replace H := Option.bind_eq_some_iff.mp H
  obtain ⟨⟨t138, t139⟩, A40, H⟩ := H
  replace H : ((some (([wrap64 (t136 - 12), wrap64 (t138 * 999), 1000000000, (-1000000000)] : List Int) : List Int)).bind fun y140 => ((some (([0, 0, 0, 1, 2, 3] : List Int) : List Int)).bind fun y143 => ((spec_l20Rd_pick.f k s0_0 t139 6).bind fun bt146 => (if 0 ≤ bt146.1 then (if bt146.1 < (y143.length : Int) then (if 0 ≤ (rd y143 bt146.1) then (if (rd y143 bt146.1) < (y140.length : Int) then ((spec_l20Rd_pick.f k s0_0 bt146.2 9).bind fun bt150 => ((some (([2, 4, 10, 100, 1000, 1000000] : List Int) : List Int)).bind fun y152 => ((spec_l20Rd_pick.f k s0_0 bt150.2 6).bind fun bt155 => (if 0 ≤ bt155.1 then (if bt155.1 < (y152.length : Int) then ((some (([1, wrap64 (1 + bt150.1), rd y152 bt155.1, 3] : List Int) : List Int)).bind fun y158 => ((spec_l20Rd_pick.f k s0_0 bt155.2 4).bind fun bt161 => (if 0 ≤ bt161.1 then (if bt161.1 < (y158.length : Int) then ((spec_l2Gcd.f k (rd y140 (rd y143 bt146.1)) (rd y158 bt161.1)).bind fun t164 => (if t164 = 0 then (none) else ((spec_l20Rd_odd.f k s0_0 bt161.2 a1).bind fun bt166 => (if bt166.1 = true then ((some (([(⟨2, 4⟩ : S24), (⟨1, 0⟩ : S24), (⟨1000000001, 1⟩ : S24), (⟨1, 1000001⟩ : S24), (⟨1, (-1)⟩ : S24), (⟨0, 0⟩ : S24)] : List (S24)) : List (S24))).bind fun y168 => ((spec_l20Rd_pick.f k s0_0 bt166.2 6).bind fun bt171 => (if 0 ≤ bt171.1 then (if bt171.1 < (y168.length : Int) then (some ((rd_T24 y168 bt171.1).f0, (rd_T24 y168 bt171.1).f1, bt171.2)) else (none)) else (none)))) else (some (wrap64 (Int.tdiv (rd y140 (rd y143 bt146.1)) t164), wrap64 (Int.tdiv (rd y158 bt161.1) t164), bt166.2)))))) else (none)) else (none)))) else (none)) else (none))))) else (none)) else (none)) else (none)) else (none))))) = some (r1, r2, r3) := H
  have A4 := Aside0.mk A40
  clear A40
  obtain ⟨y140, hy140⟩ : ∃ y_ : List Int, y_ = (([wrap64 (t136 - 12), wrap64 (t138 * 999), 1000000000, (-1000000000)] : List Int)) := ⟨_, rfl⟩
  replace H : ((some (([0, 0, 0, 1, 2, 3] : List Int) : List Int)).bind fun y143 => ((spec_l20Rd_pick.f k s0_0 t139 6).bind fun bt146 => (if 0 ≤ bt146.1 then (if bt146.1 < (y143.length : Int) then (if 0 ≤ (rd y143 bt146.1) then (if (rd y143 bt146.1) < (y140.length : Int) then ((spec_l20Rd_pick.f k s0_0 bt146.2 9).bind fun bt150 => ((some (([2, 4, 10, 100, 1000, 1000000] : List Int) : List Int)).bind fun y152 => ((spec_l20Rd_pick.f k s0_0 bt150.2 6).bind fun bt155 => (if 0 ≤ bt155.1 then (if bt155.1 < (y152.length : Int) then ((some (([1, wrap64 (1 + bt150.1), rd y152 bt155.1, 3] : List Int) : List Int)).bind fun y158 => ((spec_l20Rd_pick.f k s0_0 bt155.2 4).bind fun bt161 => (if 0 ≤ bt161.1 then (if bt161.1 < (y158.length : Int) then ((spec_l2Gcd.f k (rd y140 (rd y143 bt146.1)) (rd y158 bt161.1)).bind fun t164 => (if t164 = 0 then (none) else ((spec_l20Rd_odd.f k s0_0 bt161.2 a1).bind fun bt166 => (if bt166.1 = true then ((some (([(⟨2, 4⟩ : S24), (⟨1, 0⟩ : S24), (⟨1000000001, 1⟩ : S24), (⟨1, 1000001⟩ : S24), (⟨1, (-1)⟩ : S24), (⟨0, 0⟩ : S24)] : List (S24)) : List (S24))).bind fun y168 => ((spec_l20Rd_pick.f k s0_0 bt166.2 6).bind fun bt171 => (if 0 ≤ bt171.1 then (if bt171.1 < (y168.length : Int) then (some ((rd_T24 y168 bt171.1).f0, (rd_T24 y168 bt171.1).f1, bt171.2)) else (none)) else (none)))) else (some (wrap64 (Int.tdiv (rd y140 (rd y143 bt146.1)) t164), wrap64 (Int.tdiv (rd y158 bt161.1) t164), bt166.2)))))) else (none)) else (none)))) else (none)) else (none))))) else (none)) else (none)) else (none)) else (none)))) = some (r1, r2, r3) := by first | (rw [hy140]; with_reducible exact H) | (have H2_ := (Option.bind_some _ _).symm.trans H; rw [hy140]; with_reducible exact H2_) | (have H2_ := (Option.bind_some _ _).symm.trans H; with_reducible exact H2_) | with_reducible exact H | (rw [hy140]; exact H) | exact H
  have Ny140 := Aside0.mk hy140
  clear hy140
  obtain ⟨y143, hy143⟩ : ∃ y_ : List Int, y_ = (([0, 0, 0, 1, 2, 3] : List Int)) := ⟨_, rfl⟩
  replace H : ((spec_l20Rd_pick.f k s0_0 t139 6).bind fun bt146 => (if 0 ≤ bt146.1 then (if bt146.1 < (y143.length : Int) then (if 0 ≤ (rd y143 bt146.1) then (if (rd y143 bt146.1) < (y140.length : Int) then ((spec_l20Rd_pick.f k s0_0 bt146.2 9).bind fun bt150 => ((some (([2, 4, 10, 100, 1000, 1000000] : List Int) : List Int)).bind fun y152 => ((spec_l20Rd_pick.f k s0_0 bt150.2 6).bind fun bt155 => (if 0 ≤ bt155.1 then (if bt155.1 < (y152.length : Int) then ((some (([1, wrap64 (1 + bt150.1), rd y152 bt155.1, 3] : List Int) : List Int)).bind fun y158 => ((spec_l20Rd_pick.f k s0_0 bt155.2 4).bind fun bt161 => (if 0 ≤ bt161.1 then (if bt161.1 < (y158.length : Int) then ((spec_l2Gcd.f k (rd y140 (rd y143 bt146.1)) (rd y158 bt161.1)).bind fun t164 => (if t164 = 0 then (none) else ((spec_l20Rd_odd.f k s0_0 bt161.2 a1).bind fun bt166 => (if bt166.1 = true then ((some (([(⟨2, 4⟩ : S24), (⟨1, 0⟩ : S24), (⟨1000000001, 1⟩ : S24), (⟨1, 1000001⟩ : S24), (⟨1, (-1)⟩ : S24), (⟨0, 0⟩ : S24)] : List (S24)) : List (S24))).bind fun y168 => ((spec_l20Rd_pick.f k s0_0 bt166.2 6).bind fun bt171 => (if 0 ≤ bt171.1 then (if bt171.1 < (y168.length : Int) then (some ((rd_T24 y168 bt171.1).f0, (rd_T24 y168 bt171.1).f1, bt171.2)) else (none)) else (none)))) else (some (wrap64 (Int.tdiv (rd y140 (rd y143 bt146.1)) t164), wrap64 (Int.tdiv (rd y158 bt161.1) t164), bt166.2)))))) else (none)) else (none)))) else (none)) else (none))))) else (none)) else (none)) else (none)) else (none))) = some (r1, r2, r3) := by first | (rw [hy143]; with_reducible exact H) | (have H2_ := (Option.bind_some _ _).symm.trans H; rw [hy143]; with_reducible exact H2_) | (have H2_ := (Option.bind_some _ _).symm.trans H; with_reducible exact H2_) | with_reducible exact H | (rw [hy143]; exact H) | exact H
  have Ny143 := Aside0.mk hy143
  clear hy143
  replace H := Option.bind_eq_some_iff.mp H
  obtain ⟨⟨t146, t147⟩, A50, H⟩ := H
  replace H : (if 0 ≤ t146 then (if t146 < (y143.length : Int) then (if 0 ≤ (rd y143 t146) then (if (rd y143 t146) < (y140.length : Int) then ((spec_l20Rd_pick.f k s0_0 t147 9).bind fun bt150 => ((some (([2, 4, 10, 100, 1000, 1000000] : List Int) : List Int)).bind fun y152 => ((spec_l20Rd_pick.f k s0_0 bt150.2 6).bind fun bt155 => (if 0 ≤ bt155.1 then (if bt155.1 < (y152.length : Int) then ((some (([1, wrap64 (1 + bt150.1), rd y152 bt155.1, 3] : List Int) : List Int)).bind fun y158 => ((spec_l20Rd_pick.f k s0_0 bt155.2 4).bind fun bt161 => (if 0 ≤ bt161.1 then (if bt161.1 < (y158.length : Int) then ((spec_l2Gcd.f k (rd y140 (rd y143 t146)) (rd y158 bt161.1)).bind fun t164 => (if t164 = 0 then (none) else ((spec_l20Rd_odd.f k s0_0 bt161.2 a1).bind fun bt166 => (if bt166.1 = true then ((some (([(⟨2, 4⟩ : S24), (⟨1, 0⟩ : S24), (⟨1000000001, 1⟩ : S24), (⟨1, 1000001⟩ : S24), (⟨1, (-1)⟩ : S24), (⟨0, 0⟩ : S24)] : List (S24)) : List (S24))).bind fun y168 => ((spec_l20Rd_pick.f k s0_0 bt166.2 6).bind fun bt171 => (if 0 ≤ bt171.1 then (if bt171.1 < (y168.length : Int) then (some ((rd_T24 y168 bt171.1).f0, (rd_T24 y168 bt171.1).f1, bt171.2)) else (none)) else (none)))) else (some (wrap64 (Int.tdiv (rd y140 (rd y143 t146)) t164), wrap64 (Int.tdiv (rd y158 bt161.1) t164), bt166.2)))))) else (none)) else (none)))) else (none)) else (none))))) else (none)) else (none)) else (none)) else (none)) = some (r1, r2, r3) := H
  have A5 := Aside0.mk A50
  clear A50
  by_cases c6 : 0 ≤ t146
  · rw [if_pos c6] at H
    have c6b0 : decide (0 ≤ t146) = true := decide_eq_true c6
    clear c6
    by_cases c7 : t146 < (y143.length : Int)
    · rw [if_pos c7] at H
      have c7b0 : decide (t146 < (y143.length : Int)) = true := decide_eq_true c7
      clear c7
      by_cases c8 : 0 ≤ (rd y143 t146)
      · rw [if_pos c8] at H
        have c8b0 : decide (0 ≤ (rd y143 t146)) = true := decide_eq_true c8
        clear c8
        by_cases c9 : (rd y143 t146) < (y140.length : Int)
        · rw [if_pos c9] at H
          have c9b0 : decide ((rd y143 t146) < (y140.length : Int)) = true := decide_eq_true c9
          clear c9
          replace H := Option.bind_eq_some_iff.mp H
          obtain ⟨⟨t150, t151⟩, A100, H⟩ := H
          replace H : ((some (([2, 4, 10, 100, 1000, 1000000] : List Int) : List Int)).bind fun y152 => ((spec_l20Rd_pick.f k s0_0 t151 6).bind fun bt155 => (if 0 ≤ bt155.1 then (if bt155.1 < (y152.length : Int) then ((some (([1, wrap64 (1 + t150), rd y152 bt155.1, 3] : List Int) : List Int)).bind fun y158 => ((spec_l20Rd_pick.f k s0_0 bt155.2 4).bind fun bt161 => (if 0 ≤ bt161.1 then (if bt161.1 < (y158.length : Int) then ((spec_l2Gcd.f k (rd y140 (rd y143 t146)) (rd y158 bt161.1)).bind fun t164 => (if t164 = 0 then (none) else ((spec_l20Rd_odd.f k s0_0 bt161.2 a1).bind fun bt166 => (if bt166.1 = true then ((some (([(⟨2, 4⟩ : S24), (⟨1, 0⟩ : S24), (⟨1000000001, 1⟩ : S24), (⟨1, 1000001⟩ : S24), (⟨1, (-1)⟩ : S24), (⟨0, 0⟩ : S24)] : List (S24)) : List (S24))).bind fun y168 => ((spec_l20Rd_pick.f k s0_0 bt166.2 6).bind fun bt171 => (if 0 ≤ bt171.1 then (if bt171.1 < (y168.length : Int) then (some ((rd_T24 y168 bt171.1).f0, (rd_T24 y168 bt171.1).f1, bt171.2)) else (none)) else (none)))) else (some (wrap64 (Int.tdiv (rd y140 (rd y143 t146)) t164), wrap64 (Int.tdiv (rd y158 bt161.1) t164), bt166.2)))))) else (none)) else (none)))) else (none)) else (none)))) = some (r1, r2, r3) := H
          have A10 := Aside0.mk A100
          clear A100
          obtain ⟨y152, hy152⟩ : ∃ y_ : List Int, y_ = (([2, 4, 10, 100, 1000, 1000000] : List Int)) := ⟨_, rfl⟩
          replace H : ((spec_l20Rd_pick.f k s0_0 t151 6).bind fun bt155 => (if 0 ≤ bt155.1 then (if bt155.1 < (y152.length : Int) then ((some (([1, wrap64 (1 + t150), rd y152 bt155.1, 3] : List Int) : List Int)).bind fun y158 => ((spec_l20Rd_pick.f k s0_0 bt155.2 4).bind fun bt161 => (if 0 ≤ bt161.1 then (if bt161.1 < (y158.length : Int) then ((spec_l2Gcd.f k (rd y140 (rd y143 t146)) (rd y158 bt161.1)).bind fun t164 => (if t164 = 0 then (none) else ((spec_l20Rd_odd.f k s0_0 bt161.2 a1).bind fun bt166 => (if bt166.1 = true then ((some (([(⟨2, 4⟩ : S24), (⟨1, 0⟩ : S24), (⟨1000000001, 1⟩ : S24), (⟨1, 1000001⟩ : S24), (⟨1, (-1)⟩ : S24), (⟨0, 0⟩ : S24)] : List (S24)) : List (S24))).bind fun y168 => ((spec_l20Rd_pick.f k s0_0 bt166.2 6).bind fun bt171 => (if 0 ≤ bt171.1 then (if bt171.1 < (y168.length : Int) then (some ((rd_T24 y168 bt171.1).f0, (rd_T24 y168 bt171.1).f1, bt171.2)) else (none)) else (none)))) else (some (wrap64 (Int.tdiv (rd y140 (rd y143 t146)) t164), wrap64 (Int.tdiv (rd y158 bt161.1) t164), bt166.2)))))) else (none)) else (none)))) else (none)) else (none))) = some (r1, r2, r3) := by first | (rw [hy152]; with_reducible exact H) | (have H2_ := (Option.bind_some _ _).symm.trans H; rw [hy152]; with_reducible exact H2_) | (have H2_ := (Option.bind_some _ _).symm.trans H; with_reducible exact H2_) | with_reducible exact H | (rw [hy152]; exact H) | exact H
          have Ny152 := Aside0.mk hy152
          clear hy152
          replace H := Option.bind_eq_some_iff.mp H
          obtain ⟨⟨t155, t156⟩, A110, H⟩ := H
          replace H : (if 0 ≤ t155 then (if t155 < (y152.length : Int) then ((some (([1, wrap64 (1 + t150), rd y152 t155, 3] : List Int) : List Int)).bind fun y158 => ((spec_l20Rd_pick.f k s0_0 t156 4).bind fun bt161 => (if 0 ≤ bt161.1 then (if bt161.1 < (y158.length : Int) then ((spec_l2Gcd.f k (rd y140 (rd y143 t146)) (rd y158 bt161.1)).bind fun t164 => (if t164 = 0 then (none) else ((spec_l20Rd_odd.f k s0_0 bt161.2 a1).bind fun bt166 => (if bt166.1 = true then ((some (([(⟨2, 4⟩ : S24), (⟨1, 0⟩ : S24), (⟨1000000001, 1⟩ : S24), (⟨1, 1000001⟩ : S24), (⟨1, (-1)⟩ : S24), (⟨0, 0⟩ : S24)] : List (S24)) : List (S24))).bind fun y168 => ((spec_l20Rd_pick.f k s0_0 bt166.2 6).bind fun bt171 => (if 0 ≤ bt171.1 then (if bt171.1 < (y168.length : Int) then (some ((rd_T24 y168 bt171.1).f0, (rd_T24 y168 bt171.1).f1, bt171.2)) else (none)) else (none)))) else (some (wrap64 (Int.tdiv (rd y140 (rd y143 t146)) t164), wrap64 (Int.tdiv (rd y158 bt161.1) t164), bt166.2)))))) else (none)) else (none)))) else (none)) else (none)) = some (r1, r2, r3) := H
          have A11 := Aside0.mk A110
          clear A110
          by_cases c12 : 0 ≤ t155
          · rw [if_pos c12] at H
            have c12b0 : decide (0 ≤ t155) = true := decide_eq_true c12
            clear c12
            by_cases c13 : t155 < (y152.length : Int)
            · rw [if_pos c13] at H
              have c13b0 : decide (t155 < (y152.length : Int)) = true := decide_eq_true c13
              clear c13
              obtain ⟨y158, hy158⟩ : ∃ y_ : List Int, y_ = (([1, wrap64 (1 + t150), rd y152 t155, 3] : List Int)) := ⟨_, rfl⟩
              replace H : ((spec_l20Rd_pick.f k s0_0 t156 4).bind fun bt161 => (if 0 ≤ bt161.1 then (if bt161.1 < (y158.length : Int) then ((spec_l2Gcd.f k (rd y140 (rd y143 t146)) (rd y158 bt161.1)).bind fun t164 => (if t164 = 0 then (none) else ((spec_l20Rd_odd.f k s0_0 bt161.2 a1).bind fun bt166 => (if bt166.1 = true then ((some (([(⟨2, 4⟩ : S24), (⟨1, 0⟩ : S24), (⟨1000000001, 1⟩ : S24), (⟨1, 1000001⟩ : S24), (⟨1, (-1)⟩ : S24), (⟨0, 0⟩ : S24)] : List (S24)) : List (S24))).bind fun y168 => ((spec_l20Rd_pick.f k s0_0 bt166.2 6).bind fun bt171 => (if 0 ≤ bt171.1 then (if bt171.1 < (y168.length : Int) then (some ((rd_T24 y168 bt171.1).f0, (rd_T24 y168 bt171.1).f1, bt171.2)) else (none)) else (none)))) else (some (wrap64 (Int.tdiv (rd y140 (rd y143 t146)) t164), wrap64 (Int.tdiv (rd y158 bt161.1) t164), bt166.2)))))) else (none)) else (none))) = some (r1, r2, r3) := by first | (rw [hy158]; with_reducible exact H) | (have H2_ := (Option.bind_some _ _).symm.trans H; rw [hy158]; with_reducible exact H2_) | (have H2_ := (Option.bind_some _ _).symm.trans H; with_reducible exact H2_) | with_reducible exact H | (rw [hy158]; exact H) | exact H
              have Ny158 := Aside0.mk hy158
              clear hy158
              replace H := Option.bind_eq_some_iff.mp H
              obtain ⟨⟨t161, t162⟩, A140, H⟩ := H
              replace H : (if 0 ≤ t161 then (if t161 < (y158.length : Int) then ((spec_l2Gcd.f k (rd y140 (rd y143 t146)) (rd y158 t161)).bind fun t164 => (if t164 = 0 then (none) else ((spec_l20Rd_odd.f k s0_0 t162 a1).bind fun bt166 => (if bt166.1 = true then ((some (([(⟨2, 4⟩ : S24), (⟨1, 0⟩ : S24), (⟨1000000001, 1⟩ : S24), (⟨1, 1000001⟩ : S24), (⟨1, (-1)⟩ : S24), (⟨0, 0⟩ : S24)] : List (S24)) : List (S24))).bind fun y168 => ((spec_l20Rd_pick.f k s0_0 bt166.2 6).bind fun bt171 => (if 0 ≤ bt171.1 then (if bt171.1 < (y168.length : Int) then (some ((rd_T24 y168 bt171.1).f0, (rd_T24 y168 bt171.1).f1, bt171.2)) else (none)) else (none)))) else (some (wrap64 (Int.tdiv (rd y140 (rd y143 t146)) t164), wrap64 (Int.tdiv (rd y158 t161) t164), bt166.2)))))) else (none)) else (none)) = some (r1, r2, r3) := H
              have A14 := Aside0.mk A140
              clear A140
              by_cases c15 : 0 ≤ t161
              · rw [if_pos c15] at H
                have c15b0 : decide (0 ≤ t161) = true := decide_eq_true c15
                clear c15
                by_cases c16 : t161 < (y158.length : Int)
                · rw [if_pos c16] at H
                  have c16b0 : decide (t161 < (y158.length : Int)) = true := decide_eq_true c16
                  clear c16
                  replace H := Option.bind_eq_some_iff.mp H
                  obtain ⟨t164, A170, H⟩ := H
                  replace H : (if t164 = 0 then (none) else ((spec_l20Rd_odd.f k s0_0 t162 a1).bind fun bt166 => (if bt166.1 = true then ((some (([(⟨2, 4⟩ : S24), (⟨1, 0⟩ : S24), (⟨1000000001, 1⟩ : S24), (⟨1, 1000001⟩ : S24), (⟨1, (-1)⟩ : S24), (⟨0, 0⟩ : S24)] : List (S24)) : List (S24))).bind fun y168 => ((spec_l20Rd_pick.f k s0_0 bt166.2 6).bind fun bt171 => (if 0 ≤ bt171.1 then (if bt171.1 < (y168.length : Int) then (some ((rd_T24 y168 bt171.1).f0, (rd_T24 y168 bt171.1).f1, bt171.2)) else (none)) else (none)))) else (some (wrap64 (Int.tdiv (rd y140 (rd y143 t146)) t164), wrap64 (Int.tdiv (rd y158 t161) t164), bt166.2))))) = some (r1, r2, r3) := H
                  have A17 := Aside0.mk A170
                  clear A170
                  by_cases c18 : t164 = 0
                  · rw [if_pos c18] at H
                    exact absurd H (by simp)
                  · rw [if_neg c18] at H
                    have c18b0 : (t164 == 0) = false := beq_eq_false_iff_ne.mpr c18
                    have c18b1 : (t164 != 0) = true := bne_iff_ne.mpr c18
                    replace H := Option.bind_eq_some_iff.mp H
                    obtain ⟨⟨t166, t167⟩, A190, H⟩ := H
                    replace H : (if t166 = true then ((some (([(⟨2, 4⟩ : S24), (⟨1, 0⟩ : S24), (⟨1000000001, 1⟩ : S24), (⟨1, 1000001⟩ : S24), (⟨1, (-1)⟩ : S24), (⟨0, 0⟩ : S24)] : List (S24)) : List (S24))).bind fun y168 => ((spec_l20Rd_pick.f k s0_0 t167 6).bind fun bt171 => (if 0 ≤ bt171.1 then (if bt171.1 < (y168.length : Int) then (some ((rd_T24 y168 bt171.1).f0, (rd_T24 y168 bt171.1).f1, bt171.2)) else (none)) else (none)))) else (some (wrap64 (Int.tdiv (rd y140 (rd y143 t146)) t164), wrap64 (Int.tdiv (rd y158 t161) t164), t167))) = some (r1, r2, r3) := H
                    have A19 := Aside0.mk A190
                    clear A190
                    by_cases c20 : t166 = true
                    · subst c20
                      have H1 : ((some (([(⟨2, 4⟩ : S24), (⟨1, 0⟩ : S24), (⟨1000000001, 1⟩ : S24), (⟨1, 1000001⟩ : S24), (⟨1, (-1)⟩ : S24), (⟨0, 0⟩ : S24)] : List (S24)) : List (S24))).bind fun y168 => ((spec_l20Rd_pick.f k s0_0 t167 6).bind fun bt171 => (if 0 ≤ bt171.1 then (if bt171.1 < (y168.length : Int) then (some ((rd_T24 y168 bt171.1).f0, (rd_T24 y168 bt171.1).f1, bt171.2)) else (none)) else (none)))) = some (r1, r2, r3) := by rw [if_pos rfl] at H; exact H
                      clear H
                      have H := H1
                      clear H1
                      obtain ⟨y168, hy168⟩ : ∃ y_ : List (S24), y_ = (([(⟨2, 4⟩ : S24), (⟨1, 0⟩ : S24), (⟨1000000001, 1⟩ : S24), (⟨1, 1000001⟩ : S24), (⟨1, (-1)⟩ : S24), (⟨0, 0⟩ : S24)] : List (S24))) := ⟨_, rfl⟩
                      replace H : ((spec_l20Rd_pick.f k s0_0 t167 6).bind fun bt171 => (if 0 ≤ bt171.1 then (if bt171.1 < (y168.length : Int) then (some ((rd_T24 y168 bt171.1).f0, (rd_T24 y168 bt171.1).f1, bt171.2)) else (none)) else (none))) = some (r1, r2, r3) := by first | (rw [hy168]; with_reducible exact H) | (have H2_ := (Option.bind_some _ _).symm.trans H; rw [hy168]; with_reducible exact H2_) | (have H2_ := (Option.bind_some _ _).symm.trans H; with_reducible exact H2_) | with_reducible exact H | (rw [hy168]; exact H) | exact H
                      have Ny168 := Aside0.mk hy168
                      clear hy168
                      replace H := Option.bind_eq_some_iff.mp H
                      obtain ⟨⟨t171, t172⟩, A210, H⟩ := H
                      replace H : (if 0 ≤ t171 then (if t171 < (y168.length : Int) then (some ((rd_T24 y168 t171).f0, (rd_T24 y168 t171).f1, t172)) else (none)) else (none)) = some (r1, r2, r3) := H
                      have A21 := Aside0.mk A210
                      clear A210
                      by_cases c22 : 0 ≤ t171
                      · rw [if_pos c22] at H
                        have c22b0 : decide (0 ≤ t171) = true := decide_eq_true c22
                        clear c22
                        by_cases c23 : t171 < (y168.length : Int)
                        · rw [if_pos c23] at H
                          have c23b0 : decide (t171 < (y168.length : Int)) = true := decide_eq_true c23
                          clear c23
                          simp only [Option.some.injEq, Prod.mk.injEq] at H
                          obtain ⟨rfl, rfl, rfl⟩ := H
                          go_enter Try.func29, Try.ntmps29
                          try go_wp2_with (first | ((with_reducible refine gate_dst (N := 4) rfl ?_); refine box_event ?hg (N := 4) ?hd (cs := #[.int .i64 0, .int .i64 0]) (t := 24) ?hr ?_; (case hd => rfl); (case hg => rfl); (case hr => first | (go_simp; done) | (go_simp; rfl)); intro gb135 hg w24 hbox hb; have n0_ := Aside0.mk (IsS50.below (by repeat (first | (with_reducible first | exact HI0.out | apply IsS50.alloc | apply IsS50.drewN | apply IsS50.drew | apply IsS50.set_1) | exact HI0.out)) hb); have n1_ := Aside0.mk (KeepBut.trans (by repeat (first | (with_reducible first | exact HK.out | apply KeepBut.set_ | apply keep_drewN | apply keep_drew | apply keep_alloc) | exact HK.out)) (KeepBut.of_below hb g none) (.inl rfl)); have n2_ := Aside0.mk (below_step (by repeat (first | (with_reducible first | exact HB.out | apply below_alloc | apply pw_below_drewN | apply below_drew1 | refine below_set ?_ (IsS50.ge HI0.out)) | exact HB.out)) hb); have n3_ := Aside0.mk (hbox); have n4_ := Aside0.mk ((by rw [hg]; exact (keep_size (w := w) (g := g) (row := none) (by repeat (first | (with_reducible first | exact HK.out | apply KeepBut.set_ | apply keep_drewN | apply keep_drew | apply keep_alloc) | exact HK.out))) : w.heap.size ≤ gb135)); have n5_ := Aside0.mk ((Nat.le_trans HW0.out (by rw [hg]; exact (keep_size (w := w) (g := g) (row := none) (by repeat (first | (with_reducible first | exact HK.out | apply KeepBut.set_ | apply keep_drewN | apply keep_drew | apply keep_alloc) | exact HK.out))) : w.heap.size ≤ gb135) : w0.heap.size ≤ gb135)); have n6_ := Aside0.mk ((by rw [hg]; exact Nat.ne_of_lt (IsS50.lt (show IsS50 w0 _ g s0_0 s0_1 from by repeat (first | (with_reducible first | exact HI0.out | apply IsS50.alloc | apply IsS50.drewN | apply IsS50.drew | apply IsS50.set_1) | exact HI0.out))) : g ≠ gb135)); have n7_ := Aside0.mk ((by rw [hg]; exact Nat.ne_of_gt (IsS50.lt (show IsS50 w0 _ g s0_0 s0_1 from by repeat (first | (with_reducible first | exact HI0.out | apply IsS50.alloc | apply IsS50.drewN | apply IsS50.drew | apply IsS50.set_1) | exact HI0.out))) : gb135 ≠ g)); clear HI0; clear HK; clear HB; have HI0 := n0_; have HK := n1_; have HB := n2_; have BK135 := n3_; have GW135 := n4_; have GE135 := n5_; have NB0_135 := n6_; have NB135_0 := n7_; clear n0_ n1_ n2_ n3_ n4_ n5_ n6_ n7_; clear hb hbox hg) | ((with_reducible refine gate_callee (f := 30) rfl ?_); refine goesL_ (some 10) rfl rfl Try.func30 (by kernel_rfl) rfl #[.pointer (some ⟨g, 0, none⟩), .int .i64 24] rfl (by (try simp only [List.map_toArray, List.map_cons, List.map_nil]); first | done | rfl | (simp only [List.length_drop, List.length_take]; rfl)) ?_; (with_reducible refine (spec_l20Rd_pick.calls k g s0_0 s0_1 24 t136 t137 w0 _ ?side1 ?side2 A3.out).mono ?_); (case side1 => repeat (first | (with_reducible first | exact HI0.out | apply IsS50.alloc | apply IsS50.drewN | apply IsS50.drew | apply IsS50.set_1 | refine IsS50.far ?_ NB0_135.out _) | exact HI0.out)); (case side2 => repeat (first | (with_reducible first | exact HB.out | apply below_alloc | apply pw_below_drewN | apply below_drew1 | refine below_set ?_ (IsS50.ge HI0.out) | refine below_set ?_ GE135.out) | exact HB.out)); rintro e w25 ⟨rfl, hi, hb, hk⟩; refine ⟨_, rfl, ?_⟩; have n0_ := Aside0.mk (KeepBut.blk hk (g' := gb135) (o := .cells #[.int .i64 0, .int .i64 0] 24 (0, 0)) (by (with_reducible repeat (first | refine blk_drewN ?_ _ | refine blk_drew ?_ | refine blk_alloc ?_ _)); exact BK135.out) NB135_0.out (by simp)); have n1_ := Aside0.mk (KeepBut.trans (by repeat (first | (with_reducible first | exact HK.out | apply KeepBut.set_ | apply keep_drewN | apply keep_drew | apply keep_alloc | refine keep_far ?_ GW135.out _) | exact HK.out)) hk (.inl rfl)); have n2_ := Aside0.mk (hb); have n3_ := Aside0.mk (hi); clear BK135; clear HK; clear HB; clear HI0; have BK135 := n0_; have HK := n1_; have HB := n2_; have HI0 := n3_; clear n0_ n1_ n2_ n3_; (try clear hb); (try clear hb2); (try clear hk); (try clear hi)) | ((with_reducible refine gate_callee (f := 30) rfl ?_); refine goesL_ (some 13) rfl rfl Try.func30 (by kernel_rfl) rfl #[.pointer (some ⟨g, 0, none⟩), .int .i64 256] rfl (by (try simp only [List.map_toArray, List.map_cons, List.map_nil]); first | done | rfl | (simp only [List.length_drop, List.length_take]; rfl)) ?_; (with_reducible refine (spec_l20Rd_pick.calls k g s0_0 t137 256 t138 t139 w0 _ ?side1 ?side2 A4.out).mono ?_); (case side1 => repeat (first | (with_reducible first | exact HI0.out | apply IsS50.alloc | apply IsS50.drewN | apply IsS50.drew | apply IsS50.set_1 | refine IsS50.far ?_ NB0_135.out _) | exact HI0.out)); (case side2 => repeat (first | (with_reducible first | exact HB.out | apply below_alloc | apply pw_below_drewN | apply below_drew1 | refine below_set ?_ (IsS50.ge HI0.out) | refine below_set ?_ GE135.out) | exact HB.out)); rintro e w26 ⟨rfl, hi, hb, hk⟩; refine ⟨_, rfl, ?_⟩; have n0_ := Aside0.mk (KeepBut.blk hk (g' := gb135) (o := .cells #[.int .i64 0, .int .i64 0] 24 (0, 0)) (by (with_reducible repeat (first | refine blk_drewN ?_ _ | refine blk_drew ?_ | refine blk_alloc ?_ _)); exact BK135.out) NB135_0.out (by simp)); have n1_ := Aside0.mk (KeepBut.trans (by repeat (first | (with_reducible first | exact HK.out | apply KeepBut.set_ | apply keep_drewN | apply keep_drew | apply keep_alloc | refine keep_far ?_ GW135.out _) | exact HK.out)) hk (.inl rfl)); have n2_ := Aside0.mk (hb); have n3_ := Aside0.mk (hi); clear BK135; clear HK; clear HB; clear HI0; have BK135 := n0_; have HK := n1_; have HB := n2_; have HI0 := n3_; clear n0_ n1_ n2_ n3_; (try clear hb); (try clear hb2); (try clear hk); (try clear hi)) | ((with_reducible refine gate_dst (N := 15) rfl ?_); refine Kd.R_lit (Kd.int .i64) _ 3 ?hg (N := 15) ?hd (xs := ([wrap64 (t136 - 12), wrap64 (t138 * 999), 1000000000, (-1000000000)] : List Int)) (inner := [.int .i64 (wrap64 (t136 - 12)), .int .i64 (wrap64 (t138 * 999)), .int .i64 1000000000, .int .i64 (-1000000000)]) (ok := fun _ => True) (okp := fun _ => True) ?hr ?hp (fun _ hk => hk) trivial (Below.refl _ _) (Nat.le_refl _) (by simp) ?_; (case hd => rfl); (case hg => rfl); (case hr => first | (go_simp; done) | (go_simp; rfl)); (case hp => exact (Reps.one (show Kd.M (Kd.int .i64) _ _ _ (wrap64 (t136 - 12)) [.int .i64 (wrap64 (t136 - 12))] from rfl) (Reps.one (show Kd.M (Kd.int .i64) _ _ _ (wrap64 (t138 * 999)) [.int .i64 (wrap64 (t138 * 999))] from rfl) (Reps.one (show Kd.M (Kd.int .i64) _ _ _ 1000000000 [.int .i64 1000000000] from rfl) (Reps.one (show Kd.M (Kd.int .i64) _ _ _ (-1000000000) [.int .i64 (-1000000000)] from rfl) (Reps.none _ _)))))); intro v141 w27 ho28 hb hg_ hnew_; clear hg_ hnew_; (first | rw [← Ny140.out] at ho28 | (simp only [Int.reduceToNat] at ho28; rw [← Ny140.out] at ho28)); have n0_ := Aside0.mk (Kd.R_lower ho28 (keep_size (w := w) (g := g) (row := none) (by repeat (first | (with_reducible first | exact HK.out | apply KeepBut.set_ | apply keep_drewN | apply keep_drew | apply keep_alloc | refine keep_far ?_ GW135.out _) | exact HK.out)))); have n1_ := Aside0.mk (IsS50.below (by repeat (first | (with_reducible first | exact HI0.out | apply IsS50.alloc | apply IsS50.drewN | apply IsS50.drew | apply IsS50.set_1 | refine IsS50.far ?_ NB0_135.out _) | exact HI0.out)) hb); have n2_ := Aside0.mk (blk_below (g := gb135) (o := .cells #[.int .i64 0, .int .i64 0] 24 (0, 0)) (by (with_reducible repeat (first | refine blk_drewN ?_ _ | refine blk_drew ?_ | refine blk_alloc ?_ _)); exact BK135.out) hb); have n3_ := Aside0.mk (KeepBut.trans (by repeat (first | (with_reducible first | exact HK.out | apply KeepBut.set_ | apply keep_drewN | apply keep_drew | apply keep_alloc | refine keep_far ?_ GW135.out _) | exact HK.out)) (KeepBut.of_below hb g none) (.inl rfl)); have n4_ := Aside0.mk (below_step (by repeat (first | (with_reducible first | exact HB.out | apply below_alloc | apply pw_below_drewN | apply below_drew1 | refine below_set ?_ (IsS50.ge HI0.out) | refine below_set ?_ GE135.out) | exact HB.out)) hb); clear HI0; clear BK135; clear HK; clear HB; have HO142 := n0_; have HI0 := n1_; have BK135 := n2_; have HK := n3_; have HB := n4_; clear n0_ n1_ n2_ n3_ n4_; clear hb ho28) | ((with_reducible refine gate_dst (N := 16) rfl ?_); refine Kd.R_lit (Kd.int .i64) _ 3 ?hg (N := 16) ?hd (xs := ([0, 0, 0, 1, 2, 3] : List Int)) (inner := [.int .i64 0, .int .i64 0, .int .i64 0, .int .i64 1, .int .i64 2, .int .i64 3]) (ok := fun _ => True) (okp := fun _ => True) ?hr ?hp (fun _ hk => hk) trivial (Below.refl _ _) (Nat.le_refl _) (by simp) ?_; (case hd => rfl); (case hg => rfl); (case hr => first | (go_simp; done) | (go_simp; rfl)); (case hp => exact (Reps.one (show Kd.M (Kd.int .i64) _ _ _ 0 [.int .i64 0] from rfl) (Reps.one (show Kd.M (Kd.int .i64) _ _ _ 0 [.int .i64 0] from rfl) (Reps.one (show Kd.M (Kd.int .i64) _ _ _ 0 [.int .i64 0] from rfl) (Reps.one (show Kd.M (Kd.int .i64) _ _ _ 1 [.int .i64 1] from rfl) (Reps.one (show Kd.M (Kd.int .i64) _ _ _ 2 [.int .i64 2] from rfl) (Reps.one (show Kd.M (Kd.int .i64) _ _ _ 3 [.int .i64 3] from rfl) (Reps.none _ _)))))))); intro v144 w29 ho30 hb hg_ hnew_; clear hg_ hnew_; (first | rw [← Ny143.out] at ho30 | (simp only [Int.reduceToNat] at ho30; rw [← Ny143.out] at ho30)); have n0_ := Aside0.mk (Kd.R_elder' (by (with_reducible repeat (first | apply Kd.R_alloc | apply Kd.R_drewN | apply Kd.R_drew)); exact HO142.out) (Kd.R_base ho30) hb); have n1_ := Aside0.mk (Kd.R_lower (Kd.R_new' ho30 (Kd.R_lt (by (with_reducible repeat (first | apply Kd.R_alloc | apply Kd.R_drewN | apply Kd.R_drew)); exact HO142.out))) (keep_size (w := w) (g := g) (row := none) (by repeat (first | (with_reducible first | exact HK.out | apply KeepBut.set_ | apply keep_drewN | apply keep_drew | apply keep_alloc | refine keep_far ?_ GW135.out _) | exact HK.out)))); have n2_ := Aside0.mk (IsS50.below (by repeat (first | (with_reducible first | exact HI0.out | apply IsS50.alloc | apply IsS50.drewN | apply IsS50.drew | apply IsS50.set_1 | refine IsS50.far ?_ NB0_135.out _) | exact HI0.out)) hb); have n3_ := Aside0.mk (blk_below (g := gb135) (o := .cells #[.int .i64 0, .int .i64 0] 24 (0, 0)) (by (with_reducible repeat (first | refine blk_drewN ?_ _ | refine blk_drew ?_ | refine blk_alloc ?_ _)); exact BK135.out) hb); have n4_ := Aside0.mk (KeepBut.trans (by repeat (first | (with_reducible first | exact HK.out | apply KeepBut.set_ | apply keep_drewN | apply keep_drew | apply keep_alloc | refine keep_far ?_ GW135.out _) | exact HK.out)) (KeepBut.of_below hb g none) (.inl rfl)); have n5_ := Aside0.mk (below_step (by repeat (first | (with_reducible first | exact HB.out | apply below_alloc | apply pw_below_drewN | apply below_drew1 | refine below_set ?_ (IsS50.ge HI0.out) | refine below_set ?_ GE135.out) | exact HB.out)) hb); clear HO142; clear HI0; clear BK135; clear HK; clear HB; have HO142 := n0_; have HO145 := n1_; have HI0 := n2_; have BK135 := n3_; have HK := n4_; have HB := n5_; clear n0_ n1_ n2_ n3_ n4_ n5_; clear hb ho30) | ((with_reducible refine gate_callee (f := 30) rfl ?_); refine goesL_ (some 18) rfl rfl Try.func30 (by kernel_rfl) rfl #[.pointer (some ⟨g, 0, none⟩), .int .i64 6] rfl (by (try simp only [List.map_toArray, List.map_cons, List.map_nil]); first | done | rfl | (simp only [List.length_drop, List.length_take]; rfl)) ?_; (with_reducible refine (spec_l20Rd_pick.calls k g s0_0 t139 6 t146 t147 w0 _ ?side1 ?side2 A5.out).mono ?_); (case side1 => repeat (first | (with_reducible first | exact HI0.out | apply IsS50.alloc | apply IsS50.drewN | apply IsS50.drew | apply IsS50.set_1 | refine IsS50.far ?_ NB0_135.out _) | exact HI0.out)); (case side2 => repeat (first | (with_reducible first | exact HB.out | apply below_alloc | apply pw_below_drewN | apply below_drew1 | refine below_set ?_ (IsS50.ge HI0.out) | refine below_set ?_ GE135.out) | exact HB.out)); rintro e w31 ⟨rfl, hi, hb, hk⟩; refine ⟨_, rfl, ?_⟩; have n0_ := Aside0.mk (KeepBut.blk hk (g' := gb135) (o := .cells #[.int .i64 0, .int .i64 0] 24 (0, 0)) (by (with_reducible repeat (first | refine blk_drewN ?_ _ | refine blk_drew ?_ | refine blk_alloc ?_ _)); exact BK135.out) NB135_0.out (by simp)); have n1_ := Aside0.mk (Kd.R_mono (Kd.R_keep (IsS50.apart (show IsS50 w0 _ g s0_0 t139 from by repeat (first | (with_reducible first | exact HI0.out | apply IsS50.alloc | apply IsS50.drewN | apply IsS50.drew | apply IsS50.set_1 | refine IsS50.far ?_ NB0_135.out _) | exact HI0.out)) (by (with_reducible repeat (first | apply Kd.R_alloc | apply Kd.R_drewN | apply Kd.R_drew)); exact HO142.out) (by decide)) hk (fun _ h => h.2)) (fun _ h => h.1)); have n2_ := Aside0.mk (Kd.R_mono (Kd.R_keep (IsS50.apart (show IsS50 w0 _ g s0_0 t139 from by repeat (first | (with_reducible first | exact HI0.out | apply IsS50.alloc | apply IsS50.drewN | apply IsS50.drew | apply IsS50.set_1 | refine IsS50.far ?_ NB0_135.out _) | exact HI0.out)) (by (with_reducible repeat (first | apply Kd.R_alloc | apply Kd.R_drewN | apply Kd.R_drew)); exact HO145.out) (by decide)) hk (fun _ h => h.2)) (fun _ h => h.1)); have n3_ := Aside0.mk (KeepBut.trans (by repeat (first | (with_reducible first | exact HK.out | apply KeepBut.set_ | apply keep_drewN | apply keep_drew | apply keep_alloc | refine keep_far ?_ GW135.out _) | exact HK.out)) hk (.inl rfl)); have n4_ := Aside0.mk (hb); have n5_ := Aside0.mk (hi); clear BK135; clear HO142; clear HO145; clear HK; clear HB; clear HI0; have BK135 := n0_; have HO142 := n1_; have HO145 := n2_; have HK := n3_; have HB := n4_; have HI0 := n5_; clear n0_ n1_ n2_ n3_ n4_ n5_; (try clear hb); (try clear hb2); (try clear hk); (try clear hi); obtain ⟨Ao32, co32, eo32⟩ := Kd.R_slice HO145.out; subst eo32; have p148 : 0 ≤ (t146 : Int) := of_decide_eq_true (by first | (with_reducible assumption) | assumption); have q148 : t146 < (y143.length : Int) := of_decide_eq_true (by first | (with_reducible assumption) | assumption); obtain ⟨ad148, e148, hx148_0⟩ := Kd.at_int (Kd.R_reads' HO145.out).2.2 t146 p148 q148; cases e148; replace p148 := eq_true p148; replace q148 := eq_true q148; obtain ⟨Ao33, co33, eo33⟩ := Kd.R_slice HO142.out; subst eo33; have p149 : 0 ≤ ((rd y143 t146) : Int) := of_decide_eq_true (by first | (with_reducible assumption) | assumption); have q149 : (rd y143 t146) < (y140.length : Int) := of_decide_eq_true (by first | (with_reducible assumption) | assumption); obtain ⟨ad149, e149, hx149_0⟩ := Kd.at_int (Kd.R_reads' HO142.out).2.2 (rd y143 t146) p149 q149; cases e149; replace p149 := eq_true p149; replace q149 := eq_true q149))
                          have pi157 : (0 ≤ (t155 : Int)) = True := eq_true (of_decide_eq_true (by first | (with_reducible assumption) | assumption))
                          have qi157 : (t155 < (y152.length : Int)) = True := eq_true (of_decide_eq_true (by first | (with_reducible assumption) | assumption))
                          have pi163 : (0 ≤ (t161 : Int)) = True := eq_true (of_decide_eq_true (by first | (with_reducible assumption) | assumption))
                          have qi163 : (t161 < (y158.length : Int)) = True := eq_true (of_decide_eq_true (by first | (with_reducible assumption) | assumption))
                          have n0_ := Aside0.mk (Kd.R_drew HO142.out)
                          have n1_ := Aside0.mk (Kd.R_drew HO145.out)
                          have n2_ := Aside0.mk (blk_drew BK135.out)
                          have n3_ := Aside0.mk (IsS50.drew HI0.out)
                          have n4_ := Aside0.mk (keep_drew HK.out)
                          have n5_ := Aside0.mk (below_drew1 HB.out)
                          clear HO142
                          clear HO145
                          clear BK135
                          clear HI0
                          clear HK
                          clear HB
                          have HO142 := n0_
                          have HO145 := n1_
                          have BK135 := n2_
                          have HI0 := n3_
                          have HK := n4_
                          have HB := n5_
                          clear n0_ n1_ n2_ n3_ n4_ n5_
                          refine start_ (n := 14) (S := fun w' => True) (ds := []) #[false, false, false, false, false, false, false, false, false, false, false, false, false, false] (by kernel_rfl) rfl rfl trivial (fun hHeld => ?_); refine with_tabW spec_l20Fraction.tab2 spec_l20Fraction.bits2 (fun HT_ HW_ => ?_)
                          generalize w31.drew = w34 at HO142 HO145 BK135 HI0 HK HB hHeld ⊢
                          refine pure_ (i := 0) (N := some 23) (v := ?_) (a' := ?_) #[true, false, false, false, false, false, false, false, false, false, false, false, false, false] rfl rfl (any_of HT_.out (by kernel_rfl)) (fun _ _ _ h => h) (Or.inl ⟨by rfl, ?_⟩) ?_ ?_
                          rotate_left
                          · intro w'
                            go_simp
                            with_reducible rfl
                          rotate_left
                          · simp only [Act.put, List.setIfInBounds_toArray, List.set_cons_zero, List.set_cons_succ, i64_w, i32_w]
                            rfl
                          refine pure_ (i := 4) (N := some 27) (v := ?_) (a' := ?_) #[true, false, false, false, true, false, false, false, false, false, false, false, false, false] rfl rfl (any_of HT_.out (by kernel_rfl)) (fun _ _ _ h => h) (Or.inl ⟨by rfl, ?_⟩) ?_ ?_
                          rotate_left
                          · intro w'
                            go_simp
                            with_reducible rfl
                          rotate_left
                          · simp only [Act.put, List.setIfInBounds_toArray, List.set_cons_zero, List.set_cons_succ, i64_w, i32_w]
                            rfl
                          refine pure_ (i := 9) (N := some 32) (v := ?_) (a' := ?_) #[true, false, false, false, true, false, false, false, false, true, false, false, false, false] rfl rfl (any_of HT_.out (by kernel_rfl)) (fun _ _ _ h => h) (Or.inl ⟨by rfl, ?_⟩) ?_ ?_
                          rotate_left
                          · intro w'
                            go_simp
                            with_reducible rfl
                          rotate_left
                          · simp only [Act.put, List.setIfInBounds_toArray, List.set_cons_zero, List.set_cons_succ, i64_w, i32_w]
                            rfl
                          refine inv_at [1, 2, 3, 5, 6, 7, 8, 10, 11, 12, 13] (fun a0_ b a w' => ∃ (v153 : Value) (adz_v153 : Addr) (v159 : Value) (adz_v159 : Addr) (m6_ : Value) (m11_ : Value), a = putSel a0_ b [(1, 24, .int .i64 t150), (2, 25, .int .i64 (wrap64 (1 + t150))), (3, 26, v153), (5, 28, .int .i64 t155), (6, 29, m6_), (7, 30, .int .i64 (rd y152 t155)), (8, 31, v159), (10, 33, .int .i64 t161), (11, 34, m11_), (12, 35, .int .i64 (rd y158 t161)), (13, 6, .int .i64 (rd y158 t161))] ∧ (Kd.R (Kd.int .i64) 3 w' w.heap.size (fun k_ => True ∧ some k_ ≠ (.slice (some ad148) y143.length co32 : Value).ownBlock) (.slice (some ad149) y140.length co33) y140) ∧ (Kd.R (Kd.int .i64) 3 w' w.heap.size (fun k_ => True ∧ some k_ ≠ (.slice (some ad149) y140.length co33 : Value).ownBlock) (.slice (some ad148) y143.length co32) y143) ∧ (w'.heap[gb135]? = some (.cells #[.int .i64 0, .int .i64 0] 24 (0, 0))) ∧ (b 1 = false → IsS50 w0 w' g s0_0 t147) ∧ (KeepBut w w' g none) ∧ (Below w0.heap.size w0 w') ∧ (b 1 = true → b 5 = false → IsS50 w0 w' g s0_0 t151) ∧ (b 3 = true → Kd.R (Kd.int .i64) 3 w' w.heap.size (fun k_ => some k_ ≠ (.slice (some ad149) y140.length co33 : Value).ownBlock ∧ some k_ ≠ (.slice (some ad148) y143.length co32 : Value).ownBlock) v153 y152) ∧ (b 3 = true → ∃ c_, (v153 : Value) = .slice (some adz_v153) y152.length c_) ∧ (b 5 = true → b 10 = false → IsS50 w0 w' g s0_0 t156) ∧ (b 8 = true → Kd.R (Kd.int .i64) 3 w' w.heap.size (fun k_ => some k_ ≠ (.slice (some ad149) y140.length co33 : Value).ownBlock ∧ some k_ ≠ (.slice (some ad148) y143.length co32 : Value).ownBlock) v159 y158) ∧ (b 8 = true → ∃ c_, (v159 : Value) = .slice (some adz_v159) y158.length c_) ∧ (b 10 = true → IsS50 w0 w' g s0_0 t162) ∧ (b 6 = true → (m6_ : Value) = .pointer (some (adz_v153.add (t155).toNat))) ∧ (b 11 = true → (m11_ : Value) = .pointer (some (adz_v159.add (t161).toNat)))) HT_.out HW_.out (by kernel_rfl) (by kernel_rfl) ?_ ?_ ?_
                          · exact ⟨.bool false, ⟨0, 0, none⟩, .bool false, ⟨0, 0, none⟩, .bool false, .bool false, by simp only [putSel, Bool.false_eq_true, if_false], HO142.out, HO145.out, BK135.out, fun _ => HI0.out, HK.out, HB.out, fun h_ => absurd h_ (by decide), fun h_ => absurd h_ (by decide), fun h_ => absurd h_ (by decide), fun h_ => absurd h_ (by decide), fun h_ => absurd h_ (by decide), fun h_ => absurd h_ (by decide), fun h_ => absurd h_ (by decide), fun h_ => absurd h_ (by decide), fun h_ => absurd h_ (by decide)⟩
                          · skip
                            clear BK135 HB HI0 HK HO142 HO145
                            refine steps_cons ?_ ?_
                            · rintro b a w' ⟨v153, adz_v153, v159, adz_v159, m6_, m11_, ha, Q_HO142, Q_HO145, Q_BK135, Q_HI0, Q_HK, Q_HB, Q_HI0_e1, Q_HO154, Q_HA_HO154, Q_HI0_e5, Q_HO160, Q_HA_HO160, Q_HI0_e10, Q_X6_, Q_X11_⟩ hb_ hon hoff
                              refine ⟨_, rfl, fun K hK => ?_⟩
                              have e23 : a.tmps[23]? = some (.pointer (some ⟨g, 0, none⟩)) := by rw [ha]; exact (putSel_off rfl).trans rfl
                              replace ha := Aside0.mk ha
                              have HO142 := Aside0.mk Q_HO142
                              have HO145 := Aside0.mk Q_HO145
                              have BK135 := Aside0.mk Q_BK135
                              have HI0 := Aside0.mk (Q_HI0 hb_)
                              have HK := Aside0.mk Q_HK
                              have HB := Aside0.mk Q_HB
                              refine goes_ Try.func30 (by kernel_rfl) rfl #[.pointer (some ⟨g, 0, none⟩), .int .i64 9] (by rfl) rfl rfl (by first | (simp only [List.map_toArray, List.map_cons, List.map_nil, Act.eval, Array.getD_eq_getD_getElem?, Option.getD_some, e23]; done) | (simp only [List.map_toArray, List.map_cons, List.map_nil, Act.eval, Array.getD_eq_getD_getElem?, Option.getD_some, e23]; rfl)) ?_
                              with_reducible refine (spec_l20Rd_pick.calls k g s0_0 t147 9 t150 t151 w0 _ ?side1 ?side2 A10.out).mono ?_
                              (case side1 => repeat (first | (with_reducible first | exact HI0.out | apply IsS50.alloc | apply IsS50.drewN | apply IsS50.drew | apply IsS50.set_1 | refine IsS50.far ?_ NB0_135.out _) | exact HI0.out))
                              (case side2 => repeat (first | (with_reducible first | exact HB.out | apply below_alloc | apply pw_below_drewN | apply below_drew1 | refine below_set ?_ (IsS50.ge HI0.out) | refine below_set ?_ GE135.out) | exact HB.out))
                              rintro e w35 ⟨rfl, hi, hb, hk⟩
                              refine ⟨_, rfl, ?_⟩
                              have n0_ := Aside0.mk (KeepBut.blk hk (g' := gb135) (o := .cells #[.int .i64 0, .int .i64 0] 24 (0, 0)) (by (with_reducible repeat (first | refine blk_drewN ?_ _ | refine blk_drew ?_ | refine blk_alloc ?_ _)); exact BK135.out) NB135_0.out (by simp))
                              have n1_ := Aside0.mk (Kd.R_mono (Kd.R_keep (IsS50.apart (show IsS50 w0 _ g s0_0 t147 from by repeat (first | (with_reducible first | exact HI0.out | apply IsS50.alloc | apply IsS50.drewN | apply IsS50.drew | apply IsS50.set_1 | refine IsS50.far ?_ NB0_135.out _) | exact HI0.out)) (by (with_reducible repeat (first | apply Kd.R_alloc | apply Kd.R_drewN | apply Kd.R_drew)); exact HO142.out) (by decide)) hk (fun _ h => h.2)) (fun _ h => h.1))
                              have n2_ := Aside0.mk (Kd.R_mono (Kd.R_keep (IsS50.apart (show IsS50 w0 _ g s0_0 t147 from by repeat (first | (with_reducible first | exact HI0.out | apply IsS50.alloc | apply IsS50.drewN | apply IsS50.drew | apply IsS50.set_1 | refine IsS50.far ?_ NB0_135.out _) | exact HI0.out)) (by (with_reducible repeat (first | apply Kd.R_alloc | apply Kd.R_drewN | apply Kd.R_drew)); exact HO145.out) (by decide)) hk (fun _ h => h.2)) (fun _ h => h.1))
                              have n3_ := Aside0.mk (KeepBut.trans (by repeat (first | (with_reducible first | exact HK.out | apply KeepBut.set_ | apply keep_drewN | apply keep_drew | apply keep_alloc | refine keep_far ?_ GW135.out _) | exact HK.out)) hk (.inl rfl))
                              have n4_ := Aside0.mk (hb)
                              have n5_ := Aside0.mk (hi)
                              have z_HO154 := fun (h0_ : b 3 = true) => (show Kd.R (Kd.int .i64) 3 w35 w.heap.size (fun k_ => some k_ ≠ (.slice (some ad149) y140.length co33 : Value).ownBlock ∧ some k_ ≠ (.slice (some ad148) y143.length co32 : Value).ownBlock) v153 y152 from by first | exact (Kd.R_mono (Kd.R_keep (IsS50.apart (show IsS50 w0 _ g s0_0 t147 from by repeat (first | (with_reducible first | exact HI0.out | apply IsS50.alloc | apply IsS50.drewN | apply IsS50.drew | apply IsS50.set_1 | refine IsS50.far ?_ NB0_135.out _) | exact HI0.out)) (by (with_reducible repeat (first | apply Kd.R_alloc | apply Kd.R_drewN | apply Kd.R_drew)); exact (Q_HO154 h0_)) (by decide)) hk (fun _ h => h.2)) (fun _ h => h.1)) | exact Kd.R_mono (Kd.R_mono (Kd.R_keep (IsS50.apart (show IsS50 w0 _ g s0_0 t147 from by repeat (first | (with_reducible first | exact HI0.out | apply IsS50.alloc | apply IsS50.drewN | apply IsS50.drew | apply IsS50.set_1 | refine IsS50.far ?_ NB0_135.out _) | exact HI0.out)) (by (with_reducible repeat (first | apply Kd.R_alloc | apply Kd.R_drewN | apply Kd.R_drew)); exact (Q_HO154 h0_)) (by decide)) hk (fun _ h => h.2)) (fun _ h => h.1)) (fun _ h_ => by first | trivial | exact h_ | exact h_.1))
                              clear BK135
                              clear HO142
                              clear HO145
                              clear HK
                              clear HB
                              clear HI0
                              have BK135 := n0_
                              have HO142 := n1_
                              have HO145 := n2_
                              have HK := n3_
                              have HB := n4_
                              have HI0 := n5_
                              clear n0_ n1_ n2_ n3_ n4_ n5_
                              (try clear hb)
                              (try clear hb2)
                              (try clear hk)
                              (try clear hi)
                              refine hK.out _ _ ⟨v153, adz_v153, v159, adz_v159, m6_, m11_, (by rw [ha.out]; exact putSel_upk 0 hb_ rfl rfl rfl), (by (with_reducible repeat (first | apply Kd.R_alloc | apply Kd.R_drewN | apply Kd.R_drew)); exact Kd.R_mono HO142.out (fun _ hk => by first | grind | (simp only [true_and, and_assoc] at hk ⊢; grind))), (by (with_reducible repeat (first | apply Kd.R_alloc | apply Kd.R_drewN | apply Kd.R_drew)); exact Kd.R_mono HO145.out (fun _ hk => by first | grind | (simp only [true_and, and_assoc] at hk ⊢; grind))), (by (with_reducible repeat (first | refine blk_drewN ?_ _ | refine blk_drew ?_ | refine blk_alloc ?_ _)); exact BK135.out), fun h0_ => absurd ((up_self b 1).symm.trans h0_) (by decide), (by repeat (first | (with_reducible first | exact HK.out | apply KeepBut.set_ | apply keep_drewN | apply keep_drew | apply keep_alloc | refine keep_far ?_ GW135.out _) | exact HK.out)), (by repeat (first | (with_reducible first | exact HB.out | apply below_alloc | apply pw_below_drewN | apply below_drew1 | refine below_set ?_ (IsS50.ge HI0.out) | refine below_set ?_ GE135.out) | exact HB.out)), fun _ _ => (by repeat (first | (with_reducible first | exact HI0.out | apply IsS50.alloc | apply IsS50.drewN | apply IsS50.drew | apply IsS50.set_1 | refine IsS50.far ?_ NB0_135.out _) | exact HI0.out)), z_HO154, Q_HA_HO154, fun h0_ _ => absurd ((hoff 5 (by kernel_rfl)).symm.trans h0_) (by decide), fun h0_ => absurd ((hoff 8 (by kernel_rfl)).symm.trans h0_) (by decide), fun h0_ => absurd ((hoff 8 (by kernel_rfl)).symm.trans h0_) (by decide), fun h0_ => absurd ((hoff 10 (by kernel_rfl)).symm.trans h0_) (by decide), fun h0_ => absurd ((hoff 6 (by kernel_rfl)).symm.trans h0_) (by decide), fun h0_ => absurd ((hoff 11 (by kernel_rfl)).symm.trans h0_) (by decide)⟩
                            refine steps_cons ?_ ?_
                            · rintro b a w' ⟨v153, adz_v153, v159, adz_v159, m6_, m11_, ha, Q_HO142, Q_HO145, Q_BK135, Q_HI0, Q_HK, Q_HB, Q_HI0_e1, Q_HO154, Q_HA_HO154, Q_HI0_e5, Q_HO160, Q_HA_HO160, Q_HI0_e10, Q_X6_, Q_X11_⟩ hb_ hon hoff
                              refine ⟨_, rfl, fun K hK => ?_⟩
                              have e24 : a.tmps[24]? = some (.int .i64 t150) := by rw [ha]; exact putSel_on (e := (1, 24, .int .i64 t150)) 0 rfl rfl (hon 1 (by kernel_rfl)) rfl
                              replace ha := Aside0.mk ha
                              have HO142 := Aside0.mk Q_HO142
                              have HO145 := Aside0.mk Q_HO145
                              have BK135 := Aside0.mk Q_BK135
                              have HK := Aside0.mk Q_HK
                              have HB := Aside0.mk Q_HB
                              refine value_ (w1 := w') (v := .int .i64 (wrap64 (1 + t150))) (by rfl) rfl ?_ ?_
                              · go_simp
                                (try simp only [i64_w])
                                try rfl
                              refine hK.out _ _ ⟨v153, adz_v153, v159, adz_v159, m6_, m11_, (by rw [ha.out]; exact putSel_upk 1 hb_ rfl rfl rfl), Q_HO142, Q_HO145, Q_BK135, fun h0_ => absurd ((hon 1 (by kernel_rfl)).symm.trans h0_) (by decide), Q_HK, Q_HB, Q_HI0_e1, Q_HO154, Q_HA_HO154, Q_HI0_e5, fun h0_ => absurd ((hoff 8 (by kernel_rfl)).symm.trans h0_) (by decide), fun h0_ => absurd ((hoff 8 (by kernel_rfl)).symm.trans h0_) (by decide), Q_HI0_e10, Q_X6_, fun h0_ => absurd ((hoff 11 (by kernel_rfl)).symm.trans h0_) (by decide)⟩
                            refine steps_cons ?_ ?_
                            · rintro b a w' ⟨v153, adz_v153, v159, adz_v159, m6_, m11_, ha, Q_HO142, Q_HO145, Q_BK135, Q_HI0, Q_HK, Q_HB, Q_HI0_e1, Q_HO154, Q_HA_HO154, Q_HI0_e5, Q_HO160, Q_HA_HO160, Q_HI0_e10, Q_X6_, Q_X11_⟩ hb_ hon hoff
                              refine ⟨_, rfl, fun K hK => ?_⟩
                              replace ha := Aside0.mk ha
                              have HO142 := Aside0.mk Q_HO142
                              have HO145 := Aside0.mk Q_HO145
                              have BK135 := Aside0.mk Q_BK135
                              have HK := Aside0.mk Q_HK
                              have HB := Aside0.mk Q_HB
                              refine Kd.R_lit_step (Kd.int .i64) _ 3 ?hg (N := 26) ?hd (xs := ([2, 4, 10, 100, 1000, 1000000] : List Int)) (inner := [.int .i64 2, .int .i64 4, .int .i64 10, .int .i64 100, .int .i64 1000, .int .i64 1000000]) (ok := fun _ => True) (okp := fun _ => True) ?hr ?hp (fun _ hk => hk) trivial (Below.refl _ _) (Nat.le_refl _) (by simp) ?_; (case hd => rfl); (case hg => rfl); (case hr => first | (go_simp; done) | (go_simp; rfl)); (case hp => exact (Reps.one (show Kd.M (Kd.int .i64) _ _ _ 2 [.int .i64 2] from rfl) (Reps.one (show Kd.M (Kd.int .i64) _ _ _ 4 [.int .i64 4] from rfl) (Reps.one (show Kd.M (Kd.int .i64) _ _ _ 10 [.int .i64 10] from rfl) (Reps.one (show Kd.M (Kd.int .i64) _ _ _ 100 [.int .i64 100] from rfl) (Reps.one (show Kd.M (Kd.int .i64) _ _ _ 1000 [.int .i64 1000] from rfl) (Reps.one (show Kd.M (Kd.int .i64) _ _ _ 1000000 [.int .i64 1000000] from rfl) (Reps.none _ _))))))))
                              intro v153 w35 ho36 hb hg_ hnew_
                              clear hg_ hnew_
                              (first | rw [← Ny152.out] at ho36 | (simp only [Int.reduceToNat] at ho36; rw [← Ny152.out] at ho36))
                              have n0_ := Aside0.mk (Kd.R_elder' (by (with_reducible repeat (first | apply Kd.R_alloc | apply Kd.R_drewN | apply Kd.R_drew)); exact HO142.out) (Kd.R_base ho36) hb)
                              have n1_ := Aside0.mk (Kd.R_elder' (by (with_reducible repeat (first | apply Kd.R_alloc | apply Kd.R_drewN | apply Kd.R_drew)); exact HO145.out) (Kd.R_base ho36) hb)
                              have n2_ := Aside0.mk (Kd.R_lower (Kd.R_new' (Kd.R_new' ho36 (Kd.R_lt (by (with_reducible repeat (first | apply Kd.R_alloc | apply Kd.R_drewN | apply Kd.R_drew)); exact HO142.out))) (Kd.R_lt (by (with_reducible repeat (first | apply Kd.R_alloc | apply Kd.R_drewN | apply Kd.R_drew)); exact HO145.out))) (keep_size (w := w) (g := g) (row := none) (by repeat (first | (with_reducible first | exact HK.out | apply KeepBut.set_ | apply keep_drewN | apply keep_drew | apply keep_alloc | refine keep_far ?_ GW135.out _) | exact HK.out))))
                              have n4_ := Aside0.mk (blk_below (g := gb135) (o := .cells #[.int .i64 0, .int .i64 0] 24 (0, 0)) (by (with_reducible repeat (first | refine blk_drewN ?_ _ | refine blk_drew ?_ | refine blk_alloc ?_ _)); exact BK135.out) hb)
                              have n5_ := Aside0.mk (KeepBut.trans (by repeat (first | (with_reducible first | exact HK.out | apply KeepBut.set_ | apply keep_drewN | apply keep_drew | apply keep_alloc | refine keep_far ?_ GW135.out _) | exact HK.out)) (KeepBut.of_below hb g none) (.inl rfl))
                              have n6_ := Aside0.mk (below_step (by repeat (first | (with_reducible first | exact HB.out | apply below_alloc | apply pw_below_drewN | apply below_drew1 | refine below_set ?_ GE135.out) | exact HB.out)) hb)
                              have z_HI0 := fun (h0_ : b 1 = false) => (show IsS50 w0 w35 g s0_0 t147 from by first | exact (IsS50.below (by repeat (first | (with_reducible first | exact (Q_HI0 h0_) | apply IsS50.alloc | apply IsS50.drewN | apply IsS50.drew | apply IsS50.set_1 | refine IsS50.far ?_ NB0_135.out _) | exact (Q_HI0 h0_))) hb))
                              have z_HI0_e1 := fun (h0_ : b 1 = true) (h1_ : b 5 = false) => (show IsS50 w0 w35 g s0_0 t151 from by first | exact (IsS50.below (by repeat (first | (with_reducible first | exact (Q_HI0_e1 h0_ h1_) | apply IsS50.alloc | apply IsS50.drewN | apply IsS50.drew | apply IsS50.set_1 | refine IsS50.far ?_ NB0_135.out _) | exact (Q_HI0_e1 h0_ h1_))) hb))
                              have z_HI0_e5 := fun (h0_ : b 5 = true) (h1_ : b 10 = false) => (show IsS50 w0 w35 g s0_0 t156 from by first | exact (IsS50.below (by repeat (first | (with_reducible first | exact (Q_HI0_e5 h0_ h1_) | apply IsS50.alloc | apply IsS50.drewN | apply IsS50.drew | apply IsS50.set_1 | refine IsS50.far ?_ NB0_135.out _) | exact (Q_HI0_e5 h0_ h1_))) hb))
                              have z_HI0_e10 := fun (h0_ : b 10 = true) => (show IsS50 w0 w35 g s0_0 t162 from by first | exact (IsS50.below (by repeat (first | (with_reducible first | exact (Q_HI0_e10 h0_) | apply IsS50.alloc | apply IsS50.drewN | apply IsS50.drew | apply IsS50.set_1 | refine IsS50.far ?_ NB0_135.out _) | exact (Q_HI0_e10 h0_))) hb))
                              clear HO142
                              clear HO145
                              clear BK135
                              clear HK
                              clear HB
                              have HO142 := n0_
                              have HO145 := n1_
                              have HO154 := n2_
                              have BK135 := n4_
                              have HK := n5_
                              have HB := n6_
                              clear n0_ n1_ n2_ n4_ n5_ n6_
                              clear hb ho36
                              obtain ⟨Ao37, co37, eo37⟩ := Kd.R_slice HO154.out
                              subst eo37
                              obtain ⟨ado37, fo37, _⟩ := Kd.at_int (Kd.R_reads' HO154.out).2.2 0 (by decide) (by rw [Ny152.out]; simp)
                              cases fo37
                              refine hK.out _ _ ⟨.slice (some ado37) y152.length co37, ado37, v159, adz_v159, m6_, m11_, (by rw [ha.out]; exact putSel_upk 2 hb_ rfl rfl rfl), (by (with_reducible repeat (first | apply Kd.R_alloc | apply Kd.R_drewN | apply Kd.R_drew)); exact Kd.R_mono HO142.out (fun _ hk => by first | grind | (simp only [true_and, and_assoc] at hk ⊢; grind))), (by (with_reducible repeat (first | apply Kd.R_alloc | apply Kd.R_drewN | apply Kd.R_drew)); exact Kd.R_mono HO145.out (fun _ hk => by first | grind | (simp only [true_and, and_assoc] at hk ⊢; grind))), (by (with_reducible repeat (first | refine blk_drewN ?_ _ | refine blk_drew ?_ | refine blk_alloc ?_ _)); exact BK135.out), z_HI0, (by repeat (first | (with_reducible first | exact HK.out | apply KeepBut.set_ | apply keep_drewN | apply keep_drew | apply keep_alloc | refine keep_far ?_ GW135.out _) | exact HK.out)), (by repeat (first | (with_reducible first | exact HB.out | apply below_alloc | apply pw_below_drewN | apply below_drew1 | refine below_set ?_ GE135.out) | exact HB.out)), z_HI0_e1, fun _ => (by (with_reducible repeat (first | apply Kd.R_alloc | apply Kd.R_drewN | apply Kd.R_drew)); exact Kd.R_mono HO154.out (fun _ hk => by first | grind | (simp only [true_and, and_assoc] at hk ⊢; grind))), fun _ => ⟨_, rfl⟩, z_HI0_e5, fun h0_ => absurd ((hoff 8 (by kernel_rfl)).symm.trans h0_) (by decide), fun h0_ => absurd ((hoff 8 (by kernel_rfl)).symm.trans h0_) (by decide), z_HI0_e10, fun h0_ => absurd ((hoff 6 (by kernel_rfl)).symm.trans h0_) (by decide), fun h0_ => absurd ((hoff 11 (by kernel_rfl)).symm.trans h0_) (by decide)⟩
                            refine steps_cons ?_ ?_
                            · rintro b a w' ⟨v153, adz_v153, v159, adz_v159, m6_, m11_, ha, Q_HO142, Q_HO145, Q_BK135, Q_HI0, Q_HK, Q_HB, Q_HI0_e1, Q_HO154, Q_HA_HO154, Q_HI0_e5, Q_HO160, Q_HA_HO160, Q_HI0_e10, Q_X6_, Q_X11_⟩ hb_ hon hoff
                              refine ⟨_, rfl, fun K hK => ?_⟩
                              have e27 : a.tmps[27]? = some (.pointer (some ⟨g, 0, none⟩)) := by rw [ha]; exact (putSel_off rfl).trans rfl
                              replace ha := Aside0.mk ha
                              have HO142 := Aside0.mk Q_HO142
                              have HO145 := Aside0.mk Q_HO145
                              have BK135 := Aside0.mk Q_BK135
                              have HK := Aside0.mk Q_HK
                              have HB := Aside0.mk Q_HB
                              have HI0 := Aside0.mk (Q_HI0_e1 (hon 1 (by kernel_rfl)) hb_)
                              refine goes_ Try.func30 (by kernel_rfl) rfl #[.pointer (some ⟨g, 0, none⟩), .int .i64 6] (by rfl) rfl rfl (by first | (simp only [List.map_toArray, List.map_cons, List.map_nil, Act.eval, Array.getD_eq_getD_getElem?, Option.getD_some, e27]; done) | (simp only [List.map_toArray, List.map_cons, List.map_nil, Act.eval, Array.getD_eq_getD_getElem?, Option.getD_some, e27]; rfl)) ?_
                              with_reducible refine (spec_l20Rd_pick.calls k g s0_0 t151 6 t155 t156 w0 _ ?side1 ?side2 A11.out).mono ?_
                              (case side1 => repeat (first | (with_reducible first | exact HI0.out | apply IsS50.alloc | apply IsS50.drewN | apply IsS50.drew | apply IsS50.set_1 | refine IsS50.far ?_ NB0_135.out _) | exact HI0.out))
                              (case side2 => repeat (first | (with_reducible first | exact HB.out | apply below_alloc | apply pw_below_drewN | apply below_drew1 | refine below_set ?_ (IsS50.ge HI0.out) | refine below_set ?_ GE135.out) | exact HB.out))
                              rintro e w37 ⟨rfl, hi, hb, hk⟩
                              refine ⟨_, rfl, ?_⟩
                              have n0_ := Aside0.mk (KeepBut.blk hk (g' := gb135) (o := .cells #[.int .i64 0, .int .i64 0] 24 (0, 0)) (by (with_reducible repeat (first | refine blk_drewN ?_ _ | refine blk_drew ?_ | refine blk_alloc ?_ _)); exact BK135.out) NB135_0.out (by simp))
                              have n1_ := Aside0.mk (Kd.R_mono (Kd.R_keep (IsS50.apart (show IsS50 w0 _ g s0_0 t151 from by repeat (first | (with_reducible first | exact HI0.out | apply IsS50.alloc | apply IsS50.drewN | apply IsS50.drew | apply IsS50.set_1 | refine IsS50.far ?_ NB0_135.out _) | exact HI0.out)) (by (with_reducible repeat (first | apply Kd.R_alloc | apply Kd.R_drewN | apply Kd.R_drew)); exact HO142.out) (by decide)) hk (fun _ h => h.2)) (fun _ h => h.1))
                              have n2_ := Aside0.mk (Kd.R_mono (Kd.R_keep (IsS50.apart (show IsS50 w0 _ g s0_0 t151 from by repeat (first | (with_reducible first | exact HI0.out | apply IsS50.alloc | apply IsS50.drewN | apply IsS50.drew | apply IsS50.set_1 | refine IsS50.far ?_ NB0_135.out _) | exact HI0.out)) (by (with_reducible repeat (first | apply Kd.R_alloc | apply Kd.R_drewN | apply Kd.R_drew)); exact HO145.out) (by decide)) hk (fun _ h => h.2)) (fun _ h => h.1))
                              have n3_ := Aside0.mk (KeepBut.trans (by repeat (first | (with_reducible first | exact HK.out | apply KeepBut.set_ | apply keep_drewN | apply keep_drew | apply keep_alloc | refine keep_far ?_ GW135.out _) | exact HK.out)) hk (.inl rfl))
                              have n4_ := Aside0.mk (hb)
                              have n5_ := Aside0.mk (hi)
                              have z_HO154 := fun (h0_ : b 3 = true) => (show Kd.R (Kd.int .i64) 3 w37 w.heap.size (fun k_ => some k_ ≠ (.slice (some ad149) y140.length co33 : Value).ownBlock ∧ some k_ ≠ (.slice (some ad148) y143.length co32 : Value).ownBlock) v153 y152 from by first | exact (Kd.R_mono (Kd.R_keep (IsS50.apart (show IsS50 w0 _ g s0_0 t151 from by repeat (first | (with_reducible first | exact HI0.out | apply IsS50.alloc | apply IsS50.drewN | apply IsS50.drew | apply IsS50.set_1 | refine IsS50.far ?_ NB0_135.out _) | exact HI0.out)) (by (with_reducible repeat (first | apply Kd.R_alloc | apply Kd.R_drewN | apply Kd.R_drew)); exact (Q_HO154 h0_)) (by decide)) hk (fun _ h => h.2)) (fun _ h => h.1)) | exact Kd.R_mono (Kd.R_mono (Kd.R_keep (IsS50.apart (show IsS50 w0 _ g s0_0 t151 from by repeat (first | (with_reducible first | exact HI0.out | apply IsS50.alloc | apply IsS50.drewN | apply IsS50.drew | apply IsS50.set_1 | refine IsS50.far ?_ NB0_135.out _) | exact HI0.out)) (by (with_reducible repeat (first | apply Kd.R_alloc | apply Kd.R_drewN | apply Kd.R_drew)); exact (Q_HO154 h0_)) (by decide)) hk (fun _ h => h.2)) (fun _ h => h.1)) (fun _ h_ => by first | trivial | exact h_ | exact h_.1))
                              clear BK135
                              clear HO142
                              clear HO145
                              clear HK
                              clear HB
                              clear HI0
                              have BK135 := n0_
                              have HO142 := n1_
                              have HO145 := n2_
                              have HK := n3_
                              have HB := n4_
                              have HI0 := n5_
                              clear n0_ n1_ n2_ n3_ n4_ n5_
                              (try clear hb)
                              (try clear hb2)
                              (try clear hk)
                              (try clear hi)
                              refine hK.out _ _ ⟨v153, adz_v153, v159, adz_v159, m6_, m11_, (by rw [ha.out]; exact putSel_upk 3 hb_ rfl rfl rfl), (by (with_reducible repeat (first | apply Kd.R_alloc | apply Kd.R_drewN | apply Kd.R_drew)); exact HO142.out), (by (with_reducible repeat (first | apply Kd.R_alloc | apply Kd.R_drewN | apply Kd.R_drew)); exact HO145.out), (by (with_reducible repeat (first | refine blk_drewN ?_ _ | refine blk_drew ?_ | refine blk_alloc ?_ _)); exact BK135.out), fun h0_ => absurd ((hon 1 (by kernel_rfl)).symm.trans h0_) (by decide), (by repeat (first | (with_reducible first | exact HK.out | apply KeepBut.set_ | apply keep_drewN | apply keep_drew | apply keep_alloc | refine keep_far ?_ GW135.out _) | exact HK.out)), (by repeat (first | (with_reducible first | exact HB.out | apply below_alloc | apply pw_below_drewN | apply below_drew1 | refine below_set ?_ (IsS50.ge HI0.out) | refine below_set ?_ GE135.out) | exact HB.out)), fun _ h1_ => absurd ((up_self b 5).symm.trans h1_) (by decide), z_HO154, Q_HA_HO154, fun _ _ => (by repeat (first | (with_reducible first | exact HI0.out | apply IsS50.alloc | apply IsS50.drewN | apply IsS50.drew | apply IsS50.set_1 | refine IsS50.far ?_ NB0_135.out _) | exact HI0.out)), fun h0_ => absurd ((hoff 8 (by kernel_rfl)).symm.trans h0_) (by decide), fun h0_ => absurd ((hoff 8 (by kernel_rfl)).symm.trans h0_) (by decide), fun h0_ => absurd ((hoff 10 (by kernel_rfl)).symm.trans h0_) (by decide), fun h0_ => absurd ((hoff 6 (by kernel_rfl)).symm.trans h0_) (by decide), fun h0_ => absurd ((hoff 11 (by kernel_rfl)).symm.trans h0_) (by decide)⟩
                            refine steps_cons ?_ ?_
                            · rintro b a w' ⟨v153, adz_v153, v159, adz_v159, m6_, m11_, ha, Q_HO142, Q_HO145, Q_BK135, Q_HI0, Q_HK, Q_HB, Q_HI0_e1, Q_HO154, Q_HA_HO154, Q_HI0_e5, Q_HO160, Q_HA_HO160, Q_HI0_e10, Q_X6_, Q_X11_⟩ hb_ hon hoff
                              refine ⟨_, rfl, fun K hK => ?_⟩
                              have e26 : a.tmps[26]? = some (v153) := by rw [ha]; exact putSel_on (e := (3, 26, v153)) 2 rfl rfl (hon 3 (by kernel_rfl)) rfl
                              have e28 : a.tmps[28]? = some (.int .i64 t155) := by rw [ha]; exact putSel_on (e := (5, 28, .int .i64 t155)) 3 rfl rfl (hon 5 (by kernel_rfl)) rfl
                              replace ha := Aside0.mk ha
                              have HO142 := Aside0.mk Q_HO142
                              have HO145 := Aside0.mk Q_HO145
                              have BK135 := Aside0.mk Q_BK135
                              have HK := Aside0.mk Q_HK
                              have HB := Aside0.mk Q_HB
                              have HO154 := Aside0.mk (Q_HO154 (hon 3 (by kernel_rfl)))
                              have HA_HO154 := Aside0.mk (Q_HA_HO154 (hon 3 (by kernel_rfl)))
                              obtain ⟨c_, hv_⟩ := HA_HO154.out
                              rw [hv_] at e26
                              refine value_ (w1 := w') (v := .pointer (some (adz_v153.add (t155).toNat))) (by rfl) rfl ?_ ?_
                              · go_simp
                                (try simp only [i64_w])
                                try rfl
                              refine hK.out _ _ ⟨v153, adz_v153, v159, adz_v159, (.pointer (some (adz_v153.add (t155).toNat))), m11_, (by rw [ha.out]; exact putSel_upk 4 hb_ rfl rfl rfl), Q_HO142, Q_HO145, Q_BK135, fun h0_ => absurd ((hon 1 (by kernel_rfl)).symm.trans h0_) (by decide), Q_HK, Q_HB, fun _ h1_ => absurd ((hon 5 (by kernel_rfl)).symm.trans h1_) (by decide), Q_HO154, Q_HA_HO154, Q_HI0_e5, fun h0_ => absurd ((hoff 8 (by kernel_rfl)).symm.trans h0_) (by decide), fun h0_ => absurd ((hoff 8 (by kernel_rfl)).symm.trans h0_) (by decide), Q_HI0_e10, fun _ => rfl, fun h0_ => absurd ((hoff 11 (by kernel_rfl)).symm.trans h0_) (by decide)⟩
                            refine steps_cons ?_ ?_
                            · rintro b a w' ⟨v153, adz_v153, v159, adz_v159, m6_, m11_, ha, Q_HO142, Q_HO145, Q_BK135, Q_HI0, Q_HK, Q_HB, Q_HI0_e1, Q_HO154, Q_HA_HO154, Q_HI0_e5, Q_HO160, Q_HA_HO160, Q_HI0_e10, Q_X6_, Q_X11_⟩ hb_ hon hoff
                              refine ⟨_, rfl, fun K hK => ?_⟩
                              have e29 : a.tmps[29]? = some (m6_) := by rw [ha]; exact putSel_on (e := (6, 29, m6_)) 4 rfl rfl (hon 6 (by kernel_rfl)) rfl
                              rw [Q_X6_ (hon 6 (by kernel_rfl))] at e29
                              replace ha := Aside0.mk ha
                              have HO142 := Aside0.mk Q_HO142
                              have HO145 := Aside0.mk Q_HO145
                              have BK135 := Aside0.mk Q_BK135
                              have HK := Aside0.mk Q_HK
                              have HB := Aside0.mk Q_HB
                              have HO154 := Aside0.mk (Q_HO154 (hon 3 (by kernel_rfl)))
                              have HA_HO154 := Aside0.mk (Q_HA_HO154 (hon 3 (by kernel_rfl)))
                              obtain ⟨c_, hv_⟩ := HA_HO154.out
                              have hF_ := HO154.out
                              rw [hv_] at hF_
                              obtain ⟨ad_, ea_, hx_⟩ := Kd.at_int (Kd.R_reads' hF_).2.2 t155 (of_eq_true pi157) (of_eq_true qi157)
                              cases ea_
                              refine value_ (w1 := w') (v := .int .i64 (rd y152 t155)) (by rfl) rfl ?_ ?_
                              · go_simp
                                (try simp only [i64_w])
                                try rfl
                              refine hK.out _ _ ⟨v153, adz_v153, v159, adz_v159, m6_, m11_, (by rw [ha.out]; exact putSel_upk 5 hb_ rfl rfl rfl), Q_HO142, Q_HO145, Q_BK135, fun h0_ => absurd ((hon 1 (by kernel_rfl)).symm.trans h0_) (by decide), Q_HK, Q_HB, fun _ h1_ => absurd ((hon 5 (by kernel_rfl)).symm.trans h1_) (by decide), Q_HO154, Q_HA_HO154, Q_HI0_e5, fun h0_ => absurd ((hoff 8 (by kernel_rfl)).symm.trans h0_) (by decide), fun h0_ => absurd ((hoff 8 (by kernel_rfl)).symm.trans h0_) (by decide), Q_HI0_e10, Q_X6_, fun h0_ => absurd ((hoff 11 (by kernel_rfl)).symm.trans h0_) (by decide)⟩
                            refine steps_cons ?_ ?_
                            · rintro b a w' ⟨v153, adz_v153, v159, adz_v159, m6_, m11_, ha, Q_HO142, Q_HO145, Q_BK135, Q_HI0, Q_HK, Q_HB, Q_HI0_e1, Q_HO154, Q_HA_HO154, Q_HI0_e5, Q_HO160, Q_HA_HO160, Q_HI0_e10, Q_X6_, Q_X11_⟩ hb_ hon hoff
                              refine ⟨_, rfl, fun K hK => ?_⟩
                              have e25 : a.tmps[25]? = some (.int .i64 (wrap64 (1 + t150))) := by rw [ha]; exact putSel_on (e := (2, 25, .int .i64 (wrap64 (1 + t150)))) 1 rfl rfl (hon 2 (by kernel_rfl)) rfl
                              have e30 : a.tmps[30]? = some (.int .i64 (rd y152 t155)) := by rw [ha]; exact putSel_on (e := (7, 30, .int .i64 (rd y152 t155))) 5 rfl rfl (hon 7 (by kernel_rfl)) rfl
                              replace ha := Aside0.mk ha
                              have HO142 := Aside0.mk Q_HO142
                              have HO145 := Aside0.mk Q_HO145
                              have BK135 := Aside0.mk Q_BK135
                              have HK := Aside0.mk Q_HK
                              have HB := Aside0.mk Q_HB
                              have HO154 := Aside0.mk (Q_HO154 (hon 3 (by kernel_rfl)))
                              have HA_HO154 := Aside0.mk (Q_HA_HO154 (hon 3 (by kernel_rfl)))
                              obtain ⟨co41, eo41⟩ := HA_HO154.out
                              clear HA_HO154
                              subst eo41
                              refine Kd.R_lit_step (Kd.int .i64) _ 3 ?hg (N := 31) ?hd (xs := ([1, wrap64 (1 + t150), rd y152 t155, 3] : List Int)) (inner := [.int .i64 1, .int .i64 (wrap64 (1 + t150)), .int .i64 (rd y152 t155), .int .i64 3]) (ok := fun _ => True) (okp := fun _ => True) ?hr ?hp (fun _ hk => hk) trivial (Below.refl _ _) (Nat.le_refl _) (by simp) ?_; (case hd => rfl); (case hg => rfl); (case hr => first | (go_simp; done) | (go_simp; rfl)); (case hp => exact (Reps.one (show Kd.M (Kd.int .i64) _ _ _ 1 [.int .i64 1] from rfl) (Reps.one (show Kd.M (Kd.int .i64) _ _ _ (wrap64 (1 + t150)) [.int .i64 (wrap64 (1 + t150))] from rfl) (Reps.one (show Kd.M (Kd.int .i64) _ _ _ (rd y152 t155) [.int .i64 (rd y152 t155)] from rfl) (Reps.one (show Kd.M (Kd.int .i64) _ _ _ 3 [.int .i64 3] from rfl) (Reps.none _ _))))))
                              intro v159 w42 ho43 hb hg_ hnew_
                              clear hg_ hnew_
                              (first | rw [← Ny158.out] at ho43 | (simp only [Int.reduceToNat] at ho43; rw [← Ny158.out] at ho43))
                              have n0_ := Aside0.mk (Kd.R_elder' (by (with_reducible repeat (first | apply Kd.R_alloc | apply Kd.R_drewN | apply Kd.R_drew)); exact HO142.out) (Kd.R_base ho43) hb)
                              have n1_ := Aside0.mk (Kd.R_elder' (by (with_reducible repeat (first | apply Kd.R_alloc | apply Kd.R_drewN | apply Kd.R_drew)); exact HO145.out) (Kd.R_base ho43) hb)
                              have n2_ := Aside0.mk (Kd.R_elder' (by (with_reducible repeat (first | apply Kd.R_alloc | apply Kd.R_drewN | apply Kd.R_drew)); exact HO154.out) (Kd.R_base ho43) hb)
                              have n3_ := Aside0.mk (Kd.R_lower (Kd.R_new' (Kd.R_new' (Kd.R_new' ho43 (Kd.R_lt (by (with_reducible repeat (first | apply Kd.R_alloc | apply Kd.R_drewN | apply Kd.R_drew)); exact HO142.out))) (Kd.R_lt (by (with_reducible repeat (first | apply Kd.R_alloc | apply Kd.R_drewN | apply Kd.R_drew)); exact HO145.out))) (Kd.R_lt (by (with_reducible repeat (first | apply Kd.R_alloc | apply Kd.R_drewN | apply Kd.R_drew)); exact HO154.out))) (keep_size (w := w) (g := g) (row := none) (by repeat (first | (with_reducible first | exact HK.out | apply KeepBut.set_ | apply keep_drewN | apply keep_drew | apply keep_alloc | refine keep_far ?_ GW135.out _) | exact HK.out))))
                              have n5_ := Aside0.mk (blk_below (g := gb135) (o := .cells #[.int .i64 0, .int .i64 0] 24 (0, 0)) (by (with_reducible repeat (first | refine blk_drewN ?_ _ | refine blk_drew ?_ | refine blk_alloc ?_ _)); exact BK135.out) hb)
                              have n6_ := Aside0.mk (KeepBut.trans (by repeat (first | (with_reducible first | exact HK.out | apply KeepBut.set_ | apply keep_drewN | apply keep_drew | apply keep_alloc | refine keep_far ?_ GW135.out _) | exact HK.out)) (KeepBut.of_below hb g none) (.inl rfl))
                              have n7_ := Aside0.mk (below_step (by repeat (first | (with_reducible first | exact HB.out | apply below_alloc | apply pw_below_drewN | apply below_drew1 | refine below_set ?_ GE135.out) | exact HB.out)) hb)
                              have z_HI0_e5 := fun (h0_ : b 5 = true) (h1_ : b 10 = false) => (show IsS50 w0 w42 g s0_0 t156 from by first | exact (IsS50.below (by repeat (first | (with_reducible first | exact (Q_HI0_e5 h0_ h1_) | apply IsS50.alloc | apply IsS50.drewN | apply IsS50.drew | apply IsS50.set_1 | refine IsS50.far ?_ NB0_135.out _) | exact (Q_HI0_e5 h0_ h1_))) hb))
                              have z_HI0_e10 := fun (h0_ : b 10 = true) => (show IsS50 w0 w42 g s0_0 t162 from by first | exact (IsS50.below (by repeat (first | (with_reducible first | exact (Q_HI0_e10 h0_) | apply IsS50.alloc | apply IsS50.drewN | apply IsS50.drew | apply IsS50.set_1 | refine IsS50.far ?_ NB0_135.out _) | exact (Q_HI0_e10 h0_))) hb))
                              clear HO142
                              clear HO145
                              clear HO154
                              clear BK135
                              clear HK
                              clear HB
                              have HO142 := n0_
                              have HO145 := n1_
                              have HO154 := n2_
                              have HO160 := n3_
                              have BK135 := n5_
                              have HK := n6_
                              have HB := n7_
                              clear n0_ n1_ n2_ n3_ n5_ n6_ n7_
                              clear hb ho43
                              obtain ⟨Ao44, co44, eo44⟩ := Kd.R_slice HO160.out
                              subst eo44
                              obtain ⟨ado44, fo44, _⟩ := Kd.at_int (Kd.R_reads' HO160.out).2.2 0 (by decide) (by rw [Ny158.out]; simp)
                              cases fo44
                              refine hK.out _ _ ⟨.slice (some adz_v153) y152.length co41, adz_v153, .slice (some ado44) y158.length co44, ado44, m6_, m11_, (by rw [ha.out]; exact putSel_upk 6 hb_ rfl rfl rfl), (by (with_reducible repeat (first | apply Kd.R_alloc | apply Kd.R_drewN | apply Kd.R_drew)); exact Kd.R_mono HO142.out (fun _ hk => by first | grind | (simp only [true_and, and_assoc] at hk ⊢; grind))), (by (with_reducible repeat (first | apply Kd.R_alloc | apply Kd.R_drewN | apply Kd.R_drew)); exact Kd.R_mono HO145.out (fun _ hk => by first | grind | (simp only [true_and, and_assoc] at hk ⊢; grind))), (by (with_reducible repeat (first | refine blk_drewN ?_ _ | refine blk_drew ?_ | refine blk_alloc ?_ _)); exact BK135.out), fun h0_ => absurd ((hon 1 (by kernel_rfl)).symm.trans h0_) (by decide), (by repeat (first | (with_reducible first | exact HK.out | apply KeepBut.set_ | apply keep_drewN | apply keep_drew | apply keep_alloc | refine keep_far ?_ GW135.out _) | exact HK.out)), (by repeat (first | (with_reducible first | exact HB.out | apply below_alloc | apply pw_below_drewN | apply below_drew1 | refine below_set ?_ GE135.out) | exact HB.out)), fun _ h1_ => absurd ((hon 5 (by kernel_rfl)).symm.trans h1_) (by decide), fun _ => (by (with_reducible repeat (first | apply Kd.R_alloc | apply Kd.R_drewN | apply Kd.R_drew)); exact Kd.R_mono HO154.out (fun _ hk => by first | grind | (simp only [true_and, and_assoc] at hk ⊢; grind))), fun _ => ⟨_, rfl⟩, z_HI0_e5, fun _ => (by (with_reducible repeat (first | apply Kd.R_alloc | apply Kd.R_drewN | apply Kd.R_drew)); exact Kd.R_mono HO160.out (fun _ hk => by first | grind | (simp only [true_and, and_assoc] at hk ⊢; grind))), fun _ => ⟨_, rfl⟩, z_HI0_e10, Q_X6_, fun h0_ => absurd ((hoff 11 (by kernel_rfl)).symm.trans h0_) (by decide)⟩
                            refine steps_cons ?_ ?_
                            · rintro b a w' ⟨v153, adz_v153, v159, adz_v159, m6_, m11_, ha, Q_HO142, Q_HO145, Q_BK135, Q_HI0, Q_HK, Q_HB, Q_HI0_e1, Q_HO154, Q_HA_HO154, Q_HI0_e5, Q_HO160, Q_HA_HO160, Q_HI0_e10, Q_X6_, Q_X11_⟩ hb_ hon hoff
                              refine ⟨_, rfl, fun K hK => ?_⟩
                              have e32 : a.tmps[32]? = some (.pointer (some ⟨g, 0, none⟩)) := by rw [ha]; exact (putSel_off rfl).trans rfl
                              replace ha := Aside0.mk ha
                              have HO142 := Aside0.mk Q_HO142
                              have HO145 := Aside0.mk Q_HO145
                              have BK135 := Aside0.mk Q_BK135
                              have HK := Aside0.mk Q_HK
                              have HB := Aside0.mk Q_HB
                              have HI0 := Aside0.mk (Q_HI0_e5 (hon 5 (by kernel_rfl)) hb_)
                              refine goes_ Try.func30 (by kernel_rfl) rfl #[.pointer (some ⟨g, 0, none⟩), .int .i64 4] (by rfl) rfl rfl (by first | (simp only [List.map_toArray, List.map_cons, List.map_nil, Act.eval, Array.getD_eq_getD_getElem?, Option.getD_some, e32]; done) | (simp only [List.map_toArray, List.map_cons, List.map_nil, Act.eval, Array.getD_eq_getD_getElem?, Option.getD_some, e32]; rfl)) ?_
                              with_reducible refine (spec_l20Rd_pick.calls k g s0_0 t156 4 t161 t162 w0 _ ?side1 ?side2 A14.out).mono ?_
                              (case side1 => repeat (first | (with_reducible first | exact HI0.out | apply IsS50.alloc | apply IsS50.drewN | apply IsS50.drew | apply IsS50.set_1 | refine IsS50.far ?_ NB0_135.out _) | exact HI0.out))
                              (case side2 => repeat (first | (with_reducible first | exact HB.out | apply below_alloc | apply pw_below_drewN | apply below_drew1 | refine below_set ?_ (IsS50.ge HI0.out) | refine below_set ?_ GE135.out) | exact HB.out))
                              rintro e w38 ⟨rfl, hi, hb, hk⟩
                              refine ⟨_, rfl, ?_⟩
                              have n0_ := Aside0.mk (KeepBut.blk hk (g' := gb135) (o := .cells #[.int .i64 0, .int .i64 0] 24 (0, 0)) (by (with_reducible repeat (first | refine blk_drewN ?_ _ | refine blk_drew ?_ | refine blk_alloc ?_ _)); exact BK135.out) NB135_0.out (by simp))
                              have n1_ := Aside0.mk (Kd.R_mono (Kd.R_keep (IsS50.apart (show IsS50 w0 _ g s0_0 t156 from by repeat (first | (with_reducible first | exact HI0.out | apply IsS50.alloc | apply IsS50.drewN | apply IsS50.drew | apply IsS50.set_1 | refine IsS50.far ?_ NB0_135.out _) | exact HI0.out)) (by (with_reducible repeat (first | apply Kd.R_alloc | apply Kd.R_drewN | apply Kd.R_drew)); exact HO142.out) (by decide)) hk (fun _ h => h.2)) (fun _ h => h.1))
                              have n2_ := Aside0.mk (Kd.R_mono (Kd.R_keep (IsS50.apart (show IsS50 w0 _ g s0_0 t156 from by repeat (first | (with_reducible first | exact HI0.out | apply IsS50.alloc | apply IsS50.drewN | apply IsS50.drew | apply IsS50.set_1 | refine IsS50.far ?_ NB0_135.out _) | exact HI0.out)) (by (with_reducible repeat (first | apply Kd.R_alloc | apply Kd.R_drewN | apply Kd.R_drew)); exact HO145.out) (by decide)) hk (fun _ h => h.2)) (fun _ h => h.1))
                              have n3_ := Aside0.mk (KeepBut.trans (by repeat (first | (with_reducible first | exact HK.out | apply KeepBut.set_ | apply keep_drewN | apply keep_drew | apply keep_alloc | refine keep_far ?_ GW135.out _) | exact HK.out)) hk (.inl rfl))
                              have n4_ := Aside0.mk (hb)
                              have n5_ := Aside0.mk (hi)
                              have z_HO154 := fun (h0_ : b 3 = true) => (show Kd.R (Kd.int .i64) 3 w38 w.heap.size (fun k_ => some k_ ≠ (.slice (some ad149) y140.length co33 : Value).ownBlock ∧ some k_ ≠ (.slice (some ad148) y143.length co32 : Value).ownBlock) v153 y152 from by first | exact (Kd.R_mono (Kd.R_keep (IsS50.apart (show IsS50 w0 _ g s0_0 t156 from by repeat (first | (with_reducible first | exact HI0.out | apply IsS50.alloc | apply IsS50.drewN | apply IsS50.drew | apply IsS50.set_1 | refine IsS50.far ?_ NB0_135.out _) | exact HI0.out)) (by (with_reducible repeat (first | apply Kd.R_alloc | apply Kd.R_drewN | apply Kd.R_drew)); exact (Q_HO154 h0_)) (by decide)) hk (fun _ h => h.2)) (fun _ h => h.1)) | exact Kd.R_mono (Kd.R_mono (Kd.R_keep (IsS50.apart (show IsS50 w0 _ g s0_0 t156 from by repeat (first | (with_reducible first | exact HI0.out | apply IsS50.alloc | apply IsS50.drewN | apply IsS50.drew | apply IsS50.set_1 | refine IsS50.far ?_ NB0_135.out _) | exact HI0.out)) (by (with_reducible repeat (first | apply Kd.R_alloc | apply Kd.R_drewN | apply Kd.R_drew)); exact (Q_HO154 h0_)) (by decide)) hk (fun _ h => h.2)) (fun _ h => h.1)) (fun _ h_ => by first | trivial | exact h_ | exact h_.1))
                              have z_HO160 := fun (h0_ : b 8 = true) => (show Kd.R (Kd.int .i64) 3 w38 w.heap.size (fun k_ => some k_ ≠ (.slice (some ad149) y140.length co33 : Value).ownBlock ∧ some k_ ≠ (.slice (some ad148) y143.length co32 : Value).ownBlock) v159 y158 from by first | exact (Kd.R_mono (Kd.R_keep (IsS50.apart (show IsS50 w0 _ g s0_0 t156 from by repeat (first | (with_reducible first | exact HI0.out | apply IsS50.alloc | apply IsS50.drewN | apply IsS50.drew | apply IsS50.set_1 | refine IsS50.far ?_ NB0_135.out _) | exact HI0.out)) (by (with_reducible repeat (first | apply Kd.R_alloc | apply Kd.R_drewN | apply Kd.R_drew)); exact (Q_HO160 h0_)) (by decide)) hk (fun _ h => h.2)) (fun _ h => h.1)) | exact Kd.R_mono (Kd.R_mono (Kd.R_keep (IsS50.apart (show IsS50 w0 _ g s0_0 t156 from by repeat (first | (with_reducible first | exact HI0.out | apply IsS50.alloc | apply IsS50.drewN | apply IsS50.drew | apply IsS50.set_1 | refine IsS50.far ?_ NB0_135.out _) | exact HI0.out)) (by (with_reducible repeat (first | apply Kd.R_alloc | apply Kd.R_drewN | apply Kd.R_drew)); exact (Q_HO160 h0_)) (by decide)) hk (fun _ h => h.2)) (fun _ h => h.1)) (fun _ h_ => by first | trivial | exact h_ | exact h_.1))
                              clear BK135
                              clear HO142
                              clear HO145
                              clear HK
                              clear HB
                              clear HI0
                              have BK135 := n0_
                              have HO142 := n1_
                              have HO145 := n2_
                              have HK := n3_
                              have HB := n4_
                              have HI0 := n5_
                              clear n0_ n1_ n2_ n3_ n4_ n5_
                              (try clear hb)
                              (try clear hb2)
                              (try clear hk)
                              (try clear hi)
                              refine hK.out _ _ ⟨v153, adz_v153, v159, adz_v159, m6_, m11_, (by rw [ha.out]; exact putSel_upk 7 hb_ rfl rfl rfl), (by (with_reducible repeat (first | apply Kd.R_alloc | apply Kd.R_drewN | apply Kd.R_drew)); exact HO142.out), (by (with_reducible repeat (first | apply Kd.R_alloc | apply Kd.R_drewN | apply Kd.R_drew)); exact HO145.out), (by (with_reducible repeat (first | refine blk_drewN ?_ _ | refine blk_drew ?_ | refine blk_alloc ?_ _)); exact BK135.out), fun h0_ => absurd ((hon 1 (by kernel_rfl)).symm.trans h0_) (by decide), (by repeat (first | (with_reducible first | exact HK.out | apply KeepBut.set_ | apply keep_drewN | apply keep_drew | apply keep_alloc | refine keep_far ?_ GW135.out _) | exact HK.out)), (by repeat (first | (with_reducible first | exact HB.out | apply below_alloc | apply pw_below_drewN | apply below_drew1 | refine below_set ?_ (IsS50.ge HI0.out) | refine below_set ?_ GE135.out) | exact HB.out)), fun _ h1_ => absurd ((hon 5 (by kernel_rfl)).symm.trans h1_) (by decide), z_HO154, Q_HA_HO154, fun _ h1_ => absurd ((up_self b 10).symm.trans h1_) (by decide), z_HO160, Q_HA_HO160, fun _ => (by repeat (first | (with_reducible first | exact HI0.out | apply IsS50.alloc | apply IsS50.drewN | apply IsS50.drew | apply IsS50.set_1 | refine IsS50.far ?_ NB0_135.out _) | exact HI0.out)), Q_X6_, fun h0_ => absurd ((hoff 11 (by kernel_rfl)).symm.trans h0_) (by decide)⟩
                            refine steps_cons ?_ ?_
                            · rintro b a w' ⟨v153, adz_v153, v159, adz_v159, m6_, m11_, ha, Q_HO142, Q_HO145, Q_BK135, Q_HI0, Q_HK, Q_HB, Q_HI0_e1, Q_HO154, Q_HA_HO154, Q_HI0_e5, Q_HO160, Q_HA_HO160, Q_HI0_e10, Q_X6_, Q_X11_⟩ hb_ hon hoff
                              refine ⟨_, rfl, fun K hK => ?_⟩
                              have e31 : a.tmps[31]? = some (v159) := by rw [ha]; exact putSel_on (e := (8, 31, v159)) 6 rfl rfl (hon 8 (by kernel_rfl)) rfl
                              have e33 : a.tmps[33]? = some (.int .i64 t161) := by rw [ha]; exact putSel_on (e := (10, 33, .int .i64 t161)) 7 rfl rfl (hon 10 (by kernel_rfl)) rfl
                              replace ha := Aside0.mk ha
                              have HO142 := Aside0.mk Q_HO142
                              have HO145 := Aside0.mk Q_HO145
                              have BK135 := Aside0.mk Q_BK135
                              have HK := Aside0.mk Q_HK
                              have HB := Aside0.mk Q_HB
                              have HO154 := Aside0.mk (Q_HO154 (hon 3 (by kernel_rfl)))
                              have HA_HO154 := Aside0.mk (Q_HA_HO154 (hon 3 (by kernel_rfl)))
                              have HO160 := Aside0.mk (Q_HO160 (hon 8 (by kernel_rfl)))
                              have HA_HO160 := Aside0.mk (Q_HA_HO160 (hon 8 (by kernel_rfl)))
                              have HI0 := Aside0.mk (Q_HI0_e10 (hon 10 (by kernel_rfl)))
                              obtain ⟨c_, hv_⟩ := HA_HO160.out
                              rw [hv_] at e31
                              refine value_ (w1 := w') (v := .pointer (some (adz_v159.add (t161).toNat))) (by rfl) rfl ?_ ?_
                              · go_simp
                                (try simp only [i64_w])
                                try rfl
                              refine hK.out _ _ ⟨v153, adz_v153, v159, adz_v159, m6_, (.pointer (some (adz_v159.add (t161).toNat))), (by rw [ha.out]; exact putSel_upk 8 hb_ rfl rfl rfl), Q_HO142, Q_HO145, Q_BK135, fun h0_ => absurd ((hon 1 (by kernel_rfl)).symm.trans h0_) (by decide), Q_HK, Q_HB, fun _ h1_ => absurd ((hon 5 (by kernel_rfl)).symm.trans h1_) (by decide), Q_HO154, Q_HA_HO154, fun _ h1_ => absurd ((hon 10 (by kernel_rfl)).symm.trans h1_) (by decide), Q_HO160, Q_HA_HO160, Q_HI0_e10, Q_X6_, fun _ => rfl⟩
                            refine steps_cons ?_ ?_
                            · rintro b a w' ⟨v153, adz_v153, v159, adz_v159, m6_, m11_, ha, Q_HO142, Q_HO145, Q_BK135, Q_HI0, Q_HK, Q_HB, Q_HI0_e1, Q_HO154, Q_HA_HO154, Q_HI0_e5, Q_HO160, Q_HA_HO160, Q_HI0_e10, Q_X6_, Q_X11_⟩ hb_ hon hoff
                              refine ⟨_, rfl, fun K hK => ?_⟩
                              have e34 : a.tmps[34]? = some (m11_) := by rw [ha]; exact putSel_on (e := (11, 34, m11_)) 8 rfl rfl (hon 11 (by kernel_rfl)) rfl
                              rw [Q_X11_ (hon 11 (by kernel_rfl))] at e34
                              replace ha := Aside0.mk ha
                              have HO142 := Aside0.mk Q_HO142
                              have HO145 := Aside0.mk Q_HO145
                              have BK135 := Aside0.mk Q_BK135
                              have HK := Aside0.mk Q_HK
                              have HB := Aside0.mk Q_HB
                              have HO154 := Aside0.mk (Q_HO154 (hon 3 (by kernel_rfl)))
                              have HA_HO154 := Aside0.mk (Q_HA_HO154 (hon 3 (by kernel_rfl)))
                              have HO160 := Aside0.mk (Q_HO160 (hon 8 (by kernel_rfl)))
                              have HA_HO160 := Aside0.mk (Q_HA_HO160 (hon 8 (by kernel_rfl)))
                              have HI0 := Aside0.mk (Q_HI0_e10 (hon 10 (by kernel_rfl)))
                              obtain ⟨c_, hv_⟩ := HA_HO160.out
                              have hF_ := HO160.out
                              rw [hv_] at hF_
                              obtain ⟨ad_, ea_, hx_⟩ := Kd.at_int (Kd.R_reads' hF_).2.2 t161 (of_eq_true pi163) (of_eq_true qi163)
                              cases ea_
                              refine value_ (w1 := w') (v := .int .i64 (rd y158 t161)) (by rfl) rfl ?_ ?_
                              · go_simp
                                (try simp only [i64_w])
                                try rfl
                              refine hK.out _ _ ⟨v153, adz_v153, v159, adz_v159, m6_, m11_, (by rw [ha.out]; exact putSel_upk 9 hb_ rfl rfl rfl), Q_HO142, Q_HO145, Q_BK135, fun h0_ => absurd ((hon 1 (by kernel_rfl)).symm.trans h0_) (by decide), Q_HK, Q_HB, fun _ h1_ => absurd ((hon 5 (by kernel_rfl)).symm.trans h1_) (by decide), Q_HO154, Q_HA_HO154, fun _ h1_ => absurd ((hon 10 (by kernel_rfl)).symm.trans h1_) (by decide), Q_HO160, Q_HA_HO160, Q_HI0_e10, Q_X6_, Q_X11_⟩
                            refine steps_cons ?_ ?_
                            · rintro b a w' ⟨v153, adz_v153, v159, adz_v159, m6_, m11_, ha, Q_HO142, Q_HO145, Q_BK135, Q_HI0, Q_HK, Q_HB, Q_HI0_e1, Q_HO154, Q_HA_HO154, Q_HI0_e5, Q_HO160, Q_HA_HO160, Q_HI0_e10, Q_X6_, Q_X11_⟩ hb_ hon hoff
                              refine ⟨_, rfl, fun K hK => ?_⟩
                              have e35 : a.tmps[35]? = some (.int .i64 (rd y158 t161)) := by rw [ha]; exact putSel_on (e := (12, 35, .int .i64 (rd y158 t161))) 9 rfl rfl (hon 12 (by kernel_rfl)) rfl
                              replace ha := Aside0.mk ha
                              have HO142 := Aside0.mk Q_HO142
                              have HO145 := Aside0.mk Q_HO145
                              have BK135 := Aside0.mk Q_BK135
                              have HK := Aside0.mk Q_HK
                              have HB := Aside0.mk Q_HB
                              have HO154 := Aside0.mk (Q_HO154 (hon 3 (by kernel_rfl)))
                              have HA_HO154 := Aside0.mk (Q_HA_HO154 (hon 3 (by kernel_rfl)))
                              have HO160 := Aside0.mk (Q_HO160 (hon 8 (by kernel_rfl)))
                              have HA_HO160 := Aside0.mk (Q_HA_HO160 (hon 8 (by kernel_rfl)))
                              have HI0 := Aside0.mk (Q_HI0_e10 (hon 10 (by kernel_rfl)))
                              refine value_ (w1 := w') (v := .int .i64 (rd y158 t161)) (by rfl) rfl ?_ ?_
                              · go_simp
                                (try simp only [i64_w])
                                try rfl
                              refine hK.out _ _ ⟨v153, adz_v153, v159, adz_v159, m6_, m11_, (by rw [ha.out]; exact putSel_upk 10 hb_ rfl rfl rfl), Q_HO142, Q_HO145, Q_BK135, fun h0_ => absurd ((hon 1 (by kernel_rfl)).symm.trans h0_) (by decide), Q_HK, Q_HB, fun _ h1_ => absurd ((hon 5 (by kernel_rfl)).symm.trans h1_) (by decide), Q_HO154, Q_HA_HO154, fun _ h1_ => absurd ((hon 10 (by kernel_rfl)).symm.trans h1_) (by decide), Q_HO160, Q_HA_HO160, Q_HI0_e10, Q_X6_, Q_X11_⟩
                            exact steps_nil
                          rintro b a w44 hall ⟨v153, adz_v153, v159, adz_v159, m6_, m11_, ha, Q_HO142, Q_HO145, Q_BK135, Q_HI0, Q_HK, Q_HB, Q_HI0_e1, Q_HO154, Q_HA_HO154, Q_HI0_e5, Q_HO160, Q_HA_HO160, Q_HI0_e10, Q_X6_, Q_X11_⟩
                          clear BK135 HB HI0 HK HO142 HO145
                          have hb1_ := hall 1 (by kernel_rfl)
                          have hb2_ := hall 2 (by kernel_rfl)
                          have hb3_ := hall 3 (by kernel_rfl)
                          have hb5_ := hall 5 (by kernel_rfl)
                          have hb6_ := hall 6 (by kernel_rfl)
                          have hb7_ := hall 7 (by kernel_rfl)
                          have hb8_ := hall 8 (by kernel_rfl)
                          have hb10_ := hall 10 (by kernel_rfl)
                          have hb11_ := hall 11 (by kernel_rfl)
                          have hb12_ := hall 12 (by kernel_rfl)
                          have hb13_ := hall 13 (by kernel_rfl)
                          subst ha
                          obtain rfl := Q_X6_ hb6_
                          obtain rfl := Q_X11_ hb11_
                          simp only [putSel, hb1_, hb2_, hb3_, hb5_, hb6_, hb7_, hb8_, hb10_, hb11_, hb12_, hb13_, if_true, Act.put, List.setIfInBounds_toArray, List.set_cons_zero, List.set_cons_succ]
                          have HO142 := Aside0.mk Q_HO142
                          clear Q_HO142
                          have HO145 := Aside0.mk Q_HO145
                          clear Q_HO145
                          have BK135 := Aside0.mk Q_BK135
                          clear Q_BK135
                          clear Q_HI0
                          have HK := Aside0.mk Q_HK
                          clear Q_HK
                          have HB := Aside0.mk Q_HB
                          clear Q_HB
                          clear Q_HI0_e1
                          have HO154 := Aside0.mk (Q_HO154 hb3_)
                          clear Q_HO154
                          have HA_HO154 := Aside0.mk (Q_HA_HO154 hb3_)
                          clear Q_HA_HO154
                          clear Q_HI0_e5
                          have HO160 := Aside0.mk (Q_HO160 hb8_)
                          clear Q_HO160
                          have HA_HO160 := Aside0.mk (Q_HA_HO160 hb8_)
                          clear Q_HA_HO160
                          have HI0 := Aside0.mk (Q_HI0_e10 hb10_)
                          clear Q_HI0_e10
                          clear hall hb1_ hb2_ hb3_ hb5_ hb6_ hb7_ hb8_ hb10_ hb11_ hb12_ hb13_
                          obtain ⟨co45, eo45⟩ := HA_HO154.out
                          clear HA_HO154
                          subst eo45
                          obtain ⟨co46, eo46⟩ := HA_HO160.out
                          clear HA_HO160
                          subst eo46
                          try go_wp2_with (first | ((with_reducible refine gate_callee (f := 40) rfl ?_); refine goesL_ (some 38) rfl rfl Try.func40 (by kernel_rfl) rfl #[.int .i64 (rd y140 (rd y143 t146)), .int .i64 (rd y158 t161)] rfl (by (try simp only [List.map_toArray, List.map_cons, List.map_nil]); first | done | rfl | (simp only [List.length_drop, List.length_take]; rfl)) ?_; (with_reducible refine (spec_l2Gcd.calls k (rd y140 (rd y143 t146)) (rd y158 t161) t164 _ A17.out).mono ?_); rintro e w47 ⟨rfl, hb⟩; refine ⟨_, rfl, ?_⟩; have n0_ := Aside0.mk (Kd.R_below (by (with_reducible repeat (first | apply Kd.R_alloc | apply Kd.R_drewN | apply Kd.R_drew)); exact HO142.out) hb); have n1_ := Aside0.mk (Kd.R_below (by (with_reducible repeat (first | apply Kd.R_alloc | apply Kd.R_drewN | apply Kd.R_drew)); exact HO145.out) hb); have n2_ := Aside0.mk (Kd.R_below (by (with_reducible repeat (first | apply Kd.R_alloc | apply Kd.R_drewN | apply Kd.R_drew)); exact HO154.out) hb); have n3_ := Aside0.mk (Kd.R_below (by (with_reducible repeat (first | apply Kd.R_alloc | apply Kd.R_drewN | apply Kd.R_drew)); exact HO160.out) hb); have n4_ := Aside0.mk (IsS50.below (by repeat (first | (with_reducible first | exact HI0.out | apply IsS50.alloc | apply IsS50.drewN | apply IsS50.drew | apply IsS50.set_1 | refine IsS50.far ?_ NB0_135.out _) | exact HI0.out)) hb); have n5_ := Aside0.mk (blk_below (g := gb135) (o := .cells #[.int .i64 0, .int .i64 0] 24 (0, 0)) (by (with_reducible repeat (first | refine blk_drewN ?_ _ | refine blk_drew ?_ | refine blk_alloc ?_ _)); exact BK135.out) hb); have n6_ := Aside0.mk (KeepBut.trans (by repeat (first | (with_reducible first | exact HK.out | apply KeepBut.set_ | apply keep_drewN | apply keep_drew | apply keep_alloc | refine keep_far ?_ GW135.out _) | exact HK.out)) (KeepBut.of_below hb g none) (.inl rfl)); have n7_ := Aside0.mk (below_step (by repeat (first | (with_reducible first | exact HB.out | apply below_alloc | apply pw_below_drewN | apply below_drew1 | refine below_set ?_ (IsS50.ge HI0.out) | refine below_set ?_ GE135.out) | exact HB.out)) hb); clear HO142; clear HO145; clear HO154; clear HO160; clear HI0; clear BK135; clear HK; clear HB; have HO142 := n0_; have HO145 := n1_; have HO154 := n2_; have HO160 := n3_; have HI0 := n4_; have BK135 := n5_; have HK := n6_; have HB := n7_; clear n0_ n1_ n2_ n3_ n4_ n5_ n6_ n7_; (try clear hb); (try clear hb2); (try clear hk); (try clear hi)))
                          have n0_ := Aside0.mk (Kd.R_drew HO142.out)
                          have n1_ := Aside0.mk (Kd.R_drew HO145.out)
                          have n2_ := Aside0.mk (Kd.R_drew HO154.out)
                          have n3_ := Aside0.mk (Kd.R_drew HO160.out)
                          have n4_ := Aside0.mk (blk_drew BK135.out)
                          have n5_ := Aside0.mk (IsS50.drew HI0.out)
                          have n6_ := Aside0.mk (keep_drew HK.out)
                          have n7_ := Aside0.mk (below_drew1 HB.out)
                          clear HO142
                          clear HO145
                          clear HO154
                          clear HO160
                          clear BK135
                          clear HI0
                          clear HK
                          clear HB
                          have HO142 := n0_
                          have HO145 := n1_
                          have HO154 := n2_
                          have HO160 := n3_
                          have BK135 := n4_
                          have HI0 := n5_
                          have HK := n6_
                          have HB := n7_
                          clear n0_ n1_ n2_ n3_ n4_ n5_ n6_ n7_
                          refine start_ (n := 9) (S := fun w' => True) (ds := []) #[false, false, false, false, false, false, false, false, false] (by kernel_rfl) rfl rfl trivial (fun hHeld => ?_); refine with_tabW spec_l20Fraction.tab4 spec_l20Fraction.bits4 (fun HT_ HW_ => ?_)
                          generalize w47.drew = w48 at HO142 HO145 HO154 HO160 BK135 HI0 HK HB hHeld ⊢
                          refine pure_ (i := 0) (N := some 39) (v := ?_) (a' := ?_) #[true, false, false, false, false, false, false, false, false] rfl rfl (any_of HT_.out (by kernel_rfl)) (fun _ _ _ h => h) (Or.inl ⟨by rfl, ?_⟩) ?_ ?_
                          rotate_left
                          · intro w'
                            go_simp
                            with_reducible rfl
                          rotate_left
                          · simp only [Act.put, List.setIfInBounds_toArray, List.set_cons_zero, List.set_cons_succ, i64_w, i32_w]
                            rfl
                          refine pure_ (i := 1) (N := some 40) (v := ?_) (a' := ?_) #[true, true, false, false, false, false, false, false, false] rfl rfl (any_of HT_.out (by kernel_rfl)) (fun _ _ _ h => h) (Or.inl ⟨by rfl, ?_⟩) ?_ ?_
                          rotate_left
                          · intro w'
                            go_simp
                            with_reducible rfl
                          rotate_left
                          · simp only [Act.put, List.setIfInBounds_toArray, List.set_cons_zero, List.set_cons_succ, i64_w, i32_w]
                            rfl
                          refine pure_ (i := 2) (N := some 41) (v := ?_) (a' := ?_) #[true, true, true, false, false, false, false, false, false] rfl rfl (any_of HT_.out (by kernel_rfl)) (fun _ _ _ h => h) (Or.inl ⟨by rfl, ?_⟩) ?_ ?_
                          rotate_left
                          · intro w'
                            go_simp
                            with_reducible rfl
                          rotate_left
                          · simp only [Act.put, List.setIfInBounds_toArray, List.set_cons_zero, List.set_cons_succ, i64_w, i32_w]
                            rfl
                          refine pure_ (i := 3) (N := some 42) (v := ?_) (a' := ?_) #[true, true, true, true, false, false, false, false, false] rfl rfl (any_of HT_.out (by kernel_rfl)) (fun _ _ _ h => h) (Or.inl ⟨by rfl, ?_⟩) ?_ ?_
                          rotate_left
                          · intro w'
                            go_simp
                            with_reducible rfl
                          rotate_left
                          · simp only [Act.put, List.setIfInBounds_toArray, List.set_cons_zero, List.set_cons_succ, i64_w, i32_w]
                            rfl
                          refine pure_ (i := 4) (N := some 43) (v := ?_) (a' := ?_) #[true, true, true, true, true, false, false, false, false] rfl rfl (any_of HT_.out (by kernel_rfl)) (fun _ _ _ h => h) (Or.inl ⟨by rfl, ?_⟩) ?_ ?_
                          rotate_left
                          · intro w'
                            go_simp
                            with_reducible rfl
                          rotate_left
                          · simp only [Act.put, List.setIfInBounds_toArray, List.set_cons_zero, List.set_cons_succ, i64_w, i32_w]
                            rfl
                          refine pure_ (i := 5) (N := some 44) (v := ?_) (a' := ?_) #[true, true, true, true, true, true, false, false, false] rfl rfl (any_of HT_.out (by kernel_rfl)) (fun _ _ _ h => h) (Or.inl ⟨by rfl, ?_⟩) ?_ ?_
                          rotate_left
                          · intro w'
                            go_simp
                            with_reducible rfl
                          rotate_left
                          · simp only [Act.put, List.setIfInBounds_toArray, List.set_cons_zero, List.set_cons_succ, i64_w, i32_w]
                            rfl
                          refine pure_ (i := 6) (N := some 45) (v := ?_) (a' := ?_) #[true, true, true, true, true, true, true, false, false] rfl rfl (any_of HT_.out (by kernel_rfl)) (fun _ _ _ h => h) (Or.inl ⟨by rfl, ?_⟩) ?_ ?_
                          rotate_left
                          · intro w'
                            go_simp
                            with_reducible rfl
                          rotate_left
                          · simp only [Act.put, List.setIfInBounds_toArray, List.set_cons_zero, List.set_cons_succ, i64_w, i32_w]
                            rfl
                          refine one_ (i := 7) (N := some 8) #[true, true, true, true, true, true, true, true, false] rfl rfl (one_of HT_.out (by kernel_rfl)) (by decide) (fun K hK => ?_)
                          refine box_step ?hg (N := 8) ?hd (cs := #[.int .i64 0, .int .i64 0]) (t := 24) ?hr ?_; (case hd => rfl); (case hg => rfl); (case hr => first | (go_simp; done) | (go_simp; rfl))
                          intro gb165 hg w49 hbox hb
                          have n0_ := Aside0.mk (Kd.R_below (by (with_reducible repeat (first | apply Kd.R_alloc | apply Kd.R_drewN | apply Kd.R_drew)); exact HO142.out) hb)
                          have n1_ := Aside0.mk (Kd.R_below (by (with_reducible repeat (first | apply Kd.R_alloc | apply Kd.R_drewN | apply Kd.R_drew)); exact HO145.out) hb)
                          have n2_ := Aside0.mk (Kd.R_below (by (with_reducible repeat (first | apply Kd.R_alloc | apply Kd.R_drewN | apply Kd.R_drew)); exact HO154.out) hb)
                          have n3_ := Aside0.mk (Kd.R_below (by (with_reducible repeat (first | apply Kd.R_alloc | apply Kd.R_drewN | apply Kd.R_drew)); exact HO160.out) hb)
                          have n4_ := Aside0.mk (IsS50.below (by repeat (first | (with_reducible first | exact HI0.out | apply IsS50.alloc | apply IsS50.drewN | apply IsS50.drew | apply IsS50.set_1 | refine IsS50.far ?_ NB0_135.out _) | exact HI0.out)) hb)
                          have n5_ := Aside0.mk (blk_below (g := gb135) (o := .cells #[.int .i64 0, .int .i64 0] 24 (0, 0)) (by (with_reducible repeat (first | refine blk_drewN ?_ _ | refine blk_drew ?_ | refine blk_alloc ?_ _)); exact BK135.out) hb)
                          have n6_ := Aside0.mk (KeepBut.trans (by repeat (first | (with_reducible first | exact HK.out | apply KeepBut.set_ | apply keep_drewN | apply keep_drew | apply keep_alloc | refine keep_far ?_ GW135.out _) | exact HK.out)) (KeepBut.of_below hb g none) (.inl rfl))
                          have n7_ := Aside0.mk (below_step (by repeat (first | (with_reducible first | exact HB.out | apply below_alloc | apply pw_below_drewN | apply below_drew1 | refine below_set ?_ (IsS50.ge HI0.out) | refine below_set ?_ GE135.out) | exact HB.out)) hb)
                          have n8_ := Aside0.mk (hbox)
                          have n9_ := Aside0.mk ((by rw [hg]; exact (keep_size (w := w) (g := g) (row := none) (by repeat (first | (with_reducible first | exact HK.out | apply KeepBut.set_ | apply keep_drewN | apply keep_drew | apply keep_alloc | refine keep_far ?_ GW135.out _) | exact HK.out))) : w.heap.size ≤ gb165))
                          have n10_ := Aside0.mk ((Nat.le_trans HW0.out (by rw [hg]; exact (keep_size (w := w) (g := g) (row := none) (by repeat (first | (with_reducible first | exact HK.out | apply KeepBut.set_ | apply keep_drewN | apply keep_drew | apply keep_alloc | refine keep_far ?_ GW135.out _) | exact HK.out))) : w.heap.size ≤ gb165) : w0.heap.size ≤ gb165))
                          have n11_ := Aside0.mk ((by rw [hg]; exact Nat.ne_of_lt (blk_lt (g := gb135) (o := .cells #[.int .i64 0, .int .i64 0] 24 (0, 0)) (by (with_reducible repeat (first | refine blk_drewN ?_ _ | refine blk_drew ?_ | refine blk_alloc ?_ _)); exact BK135.out)) : gb135 ≠ gb165))
                          have n12_ := Aside0.mk ((by rw [hg]; exact Nat.ne_of_gt (blk_lt (g := gb135) (o := .cells #[.int .i64 0, .int .i64 0] 24 (0, 0)) (by (with_reducible repeat (first | refine blk_drewN ?_ _ | refine blk_drew ?_ | refine blk_alloc ?_ _)); exact BK135.out)) : gb165 ≠ gb135))
                          have n13_ := Aside0.mk ((by rw [hg]; exact Nat.ne_of_lt (IsS50.lt (show IsS50 w0 _ g s0_0 t162 from by repeat (first | (with_reducible first | exact HI0.out | apply IsS50.alloc | apply IsS50.drewN | apply IsS50.drew | apply IsS50.set_1 | refine IsS50.far ?_ NB0_135.out _) | exact HI0.out))) : g ≠ gb165))
                          have n14_ := Aside0.mk ((by rw [hg]; exact Nat.ne_of_gt (IsS50.lt (show IsS50 w0 _ g s0_0 t162 from by repeat (first | (with_reducible first | exact HI0.out | apply IsS50.alloc | apply IsS50.drewN | apply IsS50.drew | apply IsS50.set_1 | refine IsS50.far ?_ NB0_135.out _) | exact HI0.out))) : gb165 ≠ g))
                          clear HO142
                          clear HO145
                          clear HO154
                          clear HO160
                          clear HI0
                          clear BK135
                          clear HK
                          clear HB
                          have HO142 := n0_
                          have HO145 := n1_
                          have HO154 := n2_
                          have HO160 := n3_
                          have HI0 := n4_
                          have BK135 := n5_
                          have HK := n6_
                          have HB := n7_
                          have BK165 := n8_
                          have GW165 := n9_
                          have GE165 := n10_
                          have NB135_165 := n11_
                          have NB165_135 := n12_
                          have NB0_165 := n13_
                          have NB165_0 := n14_
                          clear n0_ n1_ n2_ n3_ n4_ n5_ n6_ n7_ n8_ n9_ n10_ n11_ n12_ n13_ n14_
                          clear hb hbox hg
                          refine hK.out _ _ trivial (fun hHeld => ?_)
                          clear hK K
                          refine norm_ (a' := ?_) ?_ ?_
                          rotate_left
                          · show Act.put _ (some 8) _ = _
                            simp only [Act.put, List.setIfInBounds_toArray, List.set_cons_zero, List.set_cons_succ, i64_w, i32_w]
                            rfl
                          refine one_ (i := 8) (N := none) #[true, true, true, true, true, true, true, true, true] rfl rfl (one_of HT_.out (by kernel_rfl)) (by decide) (fun K hK => ?_)
                          have hs50 : w49.cell? ⟨gb165, 0, none⟩ = some (.int .i64 0) := (blk_cell BK165.out 0).trans rfl
                          have hfs50 := blk_frozen BK165.out 0
                          have hns50_0 := NB135_165.out
                          have hms50_0 := NB165_135.out
                          have hs51 : w49.cell? ⟨gb165, 1, none⟩ = some (.int .i64 0) := (blk_cell BK165.out 1).trans rfl
                          have hfs51 := blk_frozen BK165.out 1
                          have hns51_0 := NB135_165.out
                          have hms51_0 := NB165_135.out
                          refine skip_ (w1 := ?_) (by rfl) rfl ?_ ?_
                          rotate_left
                          · go_simp
                            rfl
                          refine hK.out _ _ trivial (fun hHeld => ?_)
                          clear hK K
                          refine done_ (done_of HT_.out (by kernel_rfl)) ?_
                          try go_wp2_with (first | ((with_reducible refine gate_callee (f := 38) rfl ?_); refine goesL_ (some 48) rfl rfl Try.func38 (by kernel_rfl) rfl #[.pointer (some ⟨g, 0, none⟩), .int .i64 a1] rfl (by (try simp only [List.map_toArray, List.map_cons, List.map_nil]); first | done | rfl | (simp only [List.length_drop, List.length_take]; rfl)) ?_; (with_reducible refine (spec_l20Rd_odd.calls k g s0_0 t162 a1 true t167 w0 _ ?side1 ?side2 A19.out).mono ?_); (case side1 => repeat (first | (with_reducible first | exact HI0.out | apply IsS50.alloc | apply IsS50.drewN | apply IsS50.drew | apply IsS50.set_1 | refine IsS50.far ?_ NB0_135.out _ | refine IsS50.far ?_ NB0_165.out _) | exact HI0.out)); (case side2 => repeat (first | (with_reducible first | exact HB.out | apply below_alloc | apply pw_below_drewN | apply below_drew1 | refine below_set ?_ (IsS50.ge HI0.out) | refine below_set ?_ GE135.out | refine below_set ?_ GE165.out) | exact HB.out)); rintro e w52 ⟨rfl, hi, hb, hk⟩; refine ⟨_, rfl, ?_⟩; have n0_ := Aside0.mk (KeepBut.blk hk (g' := gb135) (o := .cells #[.int .i64 0, .int .i64 0] 24 (0, 0)) (by (with_reducible repeat (first | refine blk_drewN ?_ _ | refine blk_drew ?_ | refine blk_alloc ?_ _)); refine blk_far ?_ NB135_165.out _; (with_reducible repeat (first | refine blk_drewN ?_ _ | refine blk_drew ?_ | refine blk_alloc ?_ _)); refine blk_far ?_ NB135_165.out _; (with_reducible repeat (first | refine blk_drewN ?_ _ | refine blk_drew ?_ | refine blk_alloc ?_ _)); exact BK135.out) NB135_0.out (by simp)); have n1_ := Aside0.mk (Kd.R_mono (Kd.R_keep (IsS50.apart (show IsS50 w0 _ g s0_0 t162 from by repeat (first | (with_reducible first | exact HI0.out | apply IsS50.alloc | apply IsS50.drewN | apply IsS50.drew | apply IsS50.set_1 | refine IsS50.far ?_ NB0_135.out _ | refine IsS50.far ?_ NB0_165.out _) | exact HI0.out)) (by (with_reducible repeat (first | apply Kd.R_alloc | apply Kd.R_drewN | apply Kd.R_drew)); exact (Kd.R_mono (Kd.R_far (p := ⟨gb165, 1, none⟩) (Kd.R_far (p := ⟨gb165, 0, none⟩) (Kd.R_types HO142.out BK165.out (by decide)) (fun _ hk => hk.2) (.int .i64 (wrap64 (Int.tdiv (rd y140 (rd y143 t146)) t164)))) (fun _ hk => hk.2) (.int .i64 (wrap64 (Int.tdiv (rd y158 t161) t164)))) (fun _ h_ => h_.1))) (by decide)) hk (fun _ h => h.2)) (fun _ h => h.1)); have n2_ := Aside0.mk (Kd.R_mono (Kd.R_keep (IsS50.apart (show IsS50 w0 _ g s0_0 t162 from by repeat (first | (with_reducible first | exact HI0.out | apply IsS50.alloc | apply IsS50.drewN | apply IsS50.drew | apply IsS50.set_1 | refine IsS50.far ?_ NB0_135.out _ | refine IsS50.far ?_ NB0_165.out _) | exact HI0.out)) (by (with_reducible repeat (first | apply Kd.R_alloc | apply Kd.R_drewN | apply Kd.R_drew)); exact (Kd.R_mono (Kd.R_far (p := ⟨gb165, 1, none⟩) (Kd.R_far (p := ⟨gb165, 0, none⟩) (Kd.R_types HO145.out BK165.out (by decide)) (fun _ hk => hk.2) (.int .i64 (wrap64 (Int.tdiv (rd y140 (rd y143 t146)) t164)))) (fun _ hk => hk.2) (.int .i64 (wrap64 (Int.tdiv (rd y158 t161) t164)))) (fun _ h_ => h_.1))) (by decide)) hk (fun _ h => h.2)) (fun _ h => h.1)); have n3_ := Aside0.mk (Kd.R_mono (Kd.R_keep (IsS50.apart (show IsS50 w0 _ g s0_0 t162 from by repeat (first | (with_reducible first | exact HI0.out | apply IsS50.alloc | apply IsS50.drewN | apply IsS50.drew | apply IsS50.set_1 | refine IsS50.far ?_ NB0_135.out _ | refine IsS50.far ?_ NB0_165.out _) | exact HI0.out)) (by (with_reducible repeat (first | apply Kd.R_alloc | apply Kd.R_drewN | apply Kd.R_drew)); exact (Kd.R_mono (Kd.R_far (p := ⟨gb165, 1, none⟩) (Kd.R_far (p := ⟨gb165, 0, none⟩) (Kd.R_types HO154.out BK165.out (by decide)) (fun _ hk => hk.2) (.int .i64 (wrap64 (Int.tdiv (rd y140 (rd y143 t146)) t164)))) (fun _ hk => hk.2) (.int .i64 (wrap64 (Int.tdiv (rd y158 t161) t164)))) (fun _ h_ => h_.1))) (by decide)) hk (fun _ h => h.2)) (fun _ h => h.1)); have n4_ := Aside0.mk (Kd.R_mono (Kd.R_keep (IsS50.apart (show IsS50 w0 _ g s0_0 t162 from by repeat (first | (with_reducible first | exact HI0.out | apply IsS50.alloc | apply IsS50.drewN | apply IsS50.drew | apply IsS50.set_1 | refine IsS50.far ?_ NB0_135.out _ | refine IsS50.far ?_ NB0_165.out _) | exact HI0.out)) (by (with_reducible repeat (first | apply Kd.R_alloc | apply Kd.R_drewN | apply Kd.R_drew)); exact (Kd.R_mono (Kd.R_far (p := ⟨gb165, 1, none⟩) (Kd.R_far (p := ⟨gb165, 0, none⟩) (Kd.R_types HO160.out BK165.out (by decide)) (fun _ hk => hk.2) (.int .i64 (wrap64 (Int.tdiv (rd y140 (rd y143 t146)) t164)))) (fun _ hk => hk.2) (.int .i64 (wrap64 (Int.tdiv (rd y158 t161) t164)))) (fun _ h_ => h_.1))) (by decide)) hk (fun _ h => h.2)) (fun _ h => h.1)); have n5_ := Aside0.mk (KeepBut.blk hk (g' := gb165) (o := .cells #[.int .i64 (wrap64 (Int.tdiv (rd y140 (rd y143 t146)) t164)), .int .i64 (wrap64 (Int.tdiv (rd y158 t161) t164))] 24 (0, 0)) (by (with_reducible repeat (first | refine blk_drewN ?_ _ | refine blk_drew ?_ | refine blk_alloc ?_ _)); refine blk_put (cs := #[.int .i64 (wrap64 (Int.tdiv (rd y140 (rd y143 t146)) t164)), .int .i64 0]) ?_ 1 _ rfl; (with_reducible repeat (first | refine blk_drewN ?_ _ | refine blk_drew ?_ | refine blk_alloc ?_ _)); refine blk_put (cs := #[.int .i64 0, .int .i64 0]) ?_ 0 _ rfl; (with_reducible repeat (first | refine blk_drewN ?_ _ | refine blk_drew ?_ | refine blk_alloc ?_ _)); exact BK165.out) NB165_0.out (by simp)); have n6_ := Aside0.mk (KeepBut.trans (by repeat (first | (with_reducible first | exact HK.out | apply KeepBut.set_ | apply keep_drewN | apply keep_drew | apply keep_alloc | refine keep_far ?_ GW135.out _ | refine keep_far ?_ GW165.out _) | exact HK.out)) hk (.inl rfl)); have n7_ := Aside0.mk (hb); have n8_ := Aside0.mk (hi); clear BK135; clear HO142; clear HO145; clear HO154; clear HO160; clear BK165; clear HK; clear HB; clear HI0; have BK135 := n0_; have HO142 := n1_; have HO145 := n2_; have HO154 := n3_; have HO160 := n4_; have BK165 := n5_; have HK := n6_; have HB := n7_; have HI0 := n8_; clear n0_ n1_ n2_ n3_ n4_ n5_ n6_ n7_ n8_; (try clear hb); (try clear hb2); (try clear hk); (try clear hi)) | ((with_reducible refine gate_dst (N := 55) rfl ?_); refine Kd.R_lit k24 _ 24 ?hg (N := 55) ?hd (xs := ([(⟨2, 4⟩ : S24), (⟨1, 0⟩ : S24), (⟨1000000001, 1⟩ : S24), (⟨1, 1000001⟩ : S24), (⟨1, (-1)⟩ : S24), (⟨0, 0⟩ : S24)] : List (S24))) (inner := [.int .i64 2, .int .i64 4, .int .i64 1, .int .i64 0, .int .i64 1000000001, .int .i64 1, .int .i64 1, .int .i64 1000001, .int .i64 1, .int .i64 (-1), .int .i64 0, .int .i64 0]) (ok := fun _ => True) (okp := fun _ => True) ?hr ?hp (fun _ hk => hk) trivial (Below.refl _ _) (Nat.le_refl _) (by simp) ?_; (case hd => rfl); (case hg => rfl); (case hr => first | (go_simp; done) | (go_simp; rfl)); (case hp => exact (Reps.c2 (show Kd.M k24 _ _ _ (⟨2, 4⟩ : S24) [.int .i64 2, .int .i64 4] from (k24_mkM _ _ _ (⟨2, 4⟩ : S24) )) (Reps.c2 (show Kd.M k24 _ _ _ (⟨1, 0⟩ : S24) [.int .i64 1, .int .i64 0] from (k24_mkM _ _ _ (⟨1, 0⟩ : S24) )) (Reps.c2 (show Kd.M k24 _ _ _ (⟨1000000001, 1⟩ : S24) [.int .i64 1000000001, .int .i64 1] from (k24_mkM _ _ _ (⟨1000000001, 1⟩ : S24) )) (Reps.c2 (show Kd.M k24 _ _ _ (⟨1, 1000001⟩ : S24) [.int .i64 1, .int .i64 1000001] from (k24_mkM _ _ _ (⟨1, 1000001⟩ : S24) )) (Reps.c2 (show Kd.M k24 _ _ _ (⟨1, (-1)⟩ : S24) [.int .i64 1, .int .i64 (-1)] from (k24_mkM _ _ _ (⟨1, (-1)⟩ : S24) )) (Reps.c2 (show Kd.M k24 _ _ _ (⟨0, 0⟩ : S24) [.int .i64 0, .int .i64 0] from (k24_mkM _ _ _ (⟨0, 0⟩ : S24) )) (Reps.none _ _)))))))); intro v169 w53 ho54 hb hg_ hnew_; clear hg_ hnew_; (first | rw [← Ny168.out] at ho54 | (simp only [Int.reduceToNat] at ho54; rw [← Ny168.out] at ho54)); have n0_ := Aside0.mk (Kd.R_below (by (with_reducible repeat (first | apply Kd.R_alloc | apply Kd.R_drewN | apply Kd.R_drew)); exact HO142.out) hb); have n1_ := Aside0.mk (Kd.R_below (by (with_reducible repeat (first | apply Kd.R_alloc | apply Kd.R_drewN | apply Kd.R_drew)); exact HO145.out) hb); have n2_ := Aside0.mk (Kd.R_below (by (with_reducible repeat (first | apply Kd.R_alloc | apply Kd.R_drewN | apply Kd.R_drew)); exact HO154.out) hb); have n3_ := Aside0.mk (Kd.R_below (by (with_reducible repeat (first | apply Kd.R_alloc | apply Kd.R_drewN | apply Kd.R_drew)); exact HO160.out) hb); have n4_ := Aside0.mk (Kd.R_lower (Kd.R_newB (Kd.R_newB ho54 (g := gb135) (o := .cells #[.int .i64 0, .int .i64 0] 24 (0, 0)) (by (with_reducible repeat (first | refine blk_drewN ?_ _ | refine blk_drew ?_ | refine blk_alloc ?_ _)); exact BK135.out)) (g := gb165) (o := .cells #[.int .i64 (wrap64 (Int.tdiv (rd y140 (rd y143 t146)) t164)), .int .i64 (wrap64 (Int.tdiv (rd y158 t161) t164))] 24 (0, 0)) (by (with_reducible repeat (first | refine blk_drewN ?_ _ | refine blk_drew ?_ | refine blk_alloc ?_ _)); exact BK165.out)) (keep_size (w := w) (g := g) (row := none) (by repeat (first | (with_reducible first | exact HK.out | apply KeepBut.set_ | apply keep_drewN | apply keep_drew | apply keep_alloc | refine keep_far ?_ GW135.out _ | refine keep_far ?_ GW165.out _) | exact HK.out)))); have n5_ := Aside0.mk (IsS50.below (by repeat (first | (with_reducible first | exact HI0.out | apply IsS50.alloc | apply IsS50.drewN | apply IsS50.drew | apply IsS50.set_1 | refine IsS50.far ?_ NB0_135.out _ | refine IsS50.far ?_ NB0_165.out _) | exact HI0.out)) hb); have n6_ := Aside0.mk (blk_below (g := gb135) (o := .cells #[.int .i64 0, .int .i64 0] 24 (0, 0)) (by (with_reducible repeat (first | refine blk_drewN ?_ _ | refine blk_drew ?_ | refine blk_alloc ?_ _)); exact BK135.out) hb); have n7_ := Aside0.mk (blk_below (g := gb165) (o := .cells #[.int .i64 (wrap64 (Int.tdiv (rd y140 (rd y143 t146)) t164)), .int .i64 (wrap64 (Int.tdiv (rd y158 t161) t164))] 24 (0, 0)) (by (with_reducible repeat (first | refine blk_drewN ?_ _ | refine blk_drew ?_ | refine blk_alloc ?_ _)); exact BK165.out) hb); have n8_ := Aside0.mk (KeepBut.trans (by repeat (first | (with_reducible first | exact HK.out | apply KeepBut.set_ | apply keep_drewN | apply keep_drew | apply keep_alloc | refine keep_far ?_ GW135.out _ | refine keep_far ?_ GW165.out _) | exact HK.out)) (KeepBut.of_below hb g none) (.inl rfl)); have n9_ := Aside0.mk (below_step (by repeat (first | (with_reducible first | exact HB.out | apply below_alloc | apply pw_below_drewN | apply below_drew1 | refine below_set ?_ (IsS50.ge HI0.out) | refine below_set ?_ GE135.out | refine below_set ?_ GE165.out) | exact HB.out)) hb); clear HO142; clear HO145; clear HO154; clear HO160; clear HI0; clear BK135; clear BK165; clear HK; clear HB; have HO142 := n0_; have HO145 := n1_; have HO154 := n2_; have HO160 := n3_; have HO170 := n4_; have HI0 := n5_; have BK135 := n6_; have BK165 := n7_; have HK := n8_; have HB := n9_; clear n0_ n1_ n2_ n3_ n4_ n5_ n6_ n7_ n8_ n9_; clear hb ho54) | ((with_reducible refine gate_callee (f := 30) rfl ?_); refine goesL_ (some 57) rfl rfl Try.func30 (by kernel_rfl) rfl #[.pointer (some ⟨g, 0, none⟩), .int .i64 6] rfl (by (try simp only [List.map_toArray, List.map_cons, List.map_nil]); first | done | rfl | (simp only [List.length_drop, List.length_take]; rfl)) ?_; (with_reducible refine (spec_l20Rd_pick.calls k g s0_0 t167 6 t171 t172 w0 _ ?side1 ?side2 A21.out).mono ?_); (case side1 => repeat (first | (with_reducible first | exact HI0.out | apply IsS50.alloc | apply IsS50.drewN | apply IsS50.drew | apply IsS50.set_1 | refine IsS50.far ?_ NB0_135.out _ | refine IsS50.far ?_ NB0_165.out _) | exact HI0.out)); (case side2 => repeat (first | (with_reducible first | exact HB.out | apply below_alloc | apply pw_below_drewN | apply below_drew1 | refine below_set ?_ (IsS50.ge HI0.out) | refine below_set ?_ GE135.out | refine below_set ?_ GE165.out) | exact HB.out)); rintro e w55 ⟨rfl, hi, hb, hk⟩; refine ⟨_, rfl, ?_⟩; have n0_ := Aside0.mk (KeepBut.blk hk (g' := gb135) (o := .cells #[.int .i64 0, .int .i64 0] 24 (0, 0)) (by (with_reducible repeat (first | refine blk_drewN ?_ _ | refine blk_drew ?_ | refine blk_alloc ?_ _)); exact BK135.out) NB135_0.out (by simp)); have n1_ := Aside0.mk (Kd.R_mono (Kd.R_keep (IsS50.apart (show IsS50 w0 _ g s0_0 t167 from by repeat (first | (with_reducible first | exact HI0.out | apply IsS50.alloc | apply IsS50.drewN | apply IsS50.drew | apply IsS50.set_1 | refine IsS50.far ?_ NB0_135.out _ | refine IsS50.far ?_ NB0_165.out _) | exact HI0.out)) (by (with_reducible repeat (first | apply Kd.R_alloc | apply Kd.R_drewN | apply Kd.R_drew)); exact HO142.out) (by decide)) hk (fun _ h => h.2)) (fun _ h => h.1)); have n2_ := Aside0.mk (Kd.R_mono (Kd.R_keep (IsS50.apart (show IsS50 w0 _ g s0_0 t167 from by repeat (first | (with_reducible first | exact HI0.out | apply IsS50.alloc | apply IsS50.drewN | apply IsS50.drew | apply IsS50.set_1 | refine IsS50.far ?_ NB0_135.out _ | refine IsS50.far ?_ NB0_165.out _) | exact HI0.out)) (by (with_reducible repeat (first | apply Kd.R_alloc | apply Kd.R_drewN | apply Kd.R_drew)); exact HO145.out) (by decide)) hk (fun _ h => h.2)) (fun _ h => h.1)); have n3_ := Aside0.mk (Kd.R_mono (Kd.R_keep (IsS50.apart (show IsS50 w0 _ g s0_0 t167 from by repeat (first | (with_reducible first | exact HI0.out | apply IsS50.alloc | apply IsS50.drewN | apply IsS50.drew | apply IsS50.set_1 | refine IsS50.far ?_ NB0_135.out _ | refine IsS50.far ?_ NB0_165.out _) | exact HI0.out)) (by (with_reducible repeat (first | apply Kd.R_alloc | apply Kd.R_drewN | apply Kd.R_drew)); exact HO154.out) (by decide)) hk (fun _ h => h.2)) (fun _ h => h.1)); have n4_ := Aside0.mk (Kd.R_mono (Kd.R_keep (IsS50.apart (show IsS50 w0 _ g s0_0 t167 from by repeat (first | (with_reducible first | exact HI0.out | apply IsS50.alloc | apply IsS50.drewN | apply IsS50.drew | apply IsS50.set_1 | refine IsS50.far ?_ NB0_135.out _ | refine IsS50.far ?_ NB0_165.out _) | exact HI0.out)) (by (with_reducible repeat (first | apply Kd.R_alloc | apply Kd.R_drewN | apply Kd.R_drew)); exact HO160.out) (by decide)) hk (fun _ h => h.2)) (fun _ h => h.1)); have n5_ := Aside0.mk (KeepBut.blk hk (g' := gb165) (o := .cells #[.int .i64 (wrap64 (Int.tdiv (rd y140 (rd y143 t146)) t164)), .int .i64 (wrap64 (Int.tdiv (rd y158 t161) t164))] 24 (0, 0)) (by (with_reducible repeat (first | refine blk_drewN ?_ _ | refine blk_drew ?_ | refine blk_alloc ?_ _)); exact BK165.out) NB165_0.out (by simp)); have n6_ := Aside0.mk (Kd.R_mono (Kd.R_keep (IsS50.apart (show IsS50 w0 _ g s0_0 t167 from by repeat (first | (with_reducible first | exact HI0.out | apply IsS50.alloc | apply IsS50.drewN | apply IsS50.drew | apply IsS50.set_1 | refine IsS50.far ?_ NB0_135.out _ | refine IsS50.far ?_ NB0_165.out _) | exact HI0.out)) (by (with_reducible repeat (first | apply Kd.R_alloc | apply Kd.R_drewN | apply Kd.R_drew)); exact HO170.out) (by decide)) hk (fun _ h => h.2)) (fun _ h => h.1)); have n7_ := Aside0.mk (KeepBut.trans (by repeat (first | (with_reducible first | exact HK.out | apply KeepBut.set_ | apply keep_drewN | apply keep_drew | apply keep_alloc | refine keep_far ?_ GW135.out _ | refine keep_far ?_ GW165.out _) | exact HK.out)) hk (.inl rfl)); have n8_ := Aside0.mk (hb); have n9_ := Aside0.mk (hi); clear BK135; clear HO142; clear HO145; clear HO154; clear HO160; clear BK165; clear HO170; clear HK; clear HB; clear HI0; have BK135 := n0_; have HO142 := n1_; have HO145 := n2_; have HO154 := n3_; have HO160 := n4_; have BK165 := n5_; have HO170 := n6_; have HK := n7_; have HB := n8_; have HI0 := n9_; clear n0_ n1_ n2_ n3_ n4_ n5_ n6_ n7_ n8_ n9_; (try clear hb); (try clear hb2); (try clear hk); (try clear hi); obtain ⟨Ao56, co56, eo56⟩ := Kd.R_slice HO170.out; subst eo56; have p173 : 0 ≤ (t171 : Int) := of_decide_eq_true (by first | (with_reducible assumption) | assumption); have q173 : t171 < (y168.length : Int) := of_decide_eq_true (by first | (with_reducible assumption) | assumption); obtain ⟨ad173, e173, hx173_0, hx173_1⟩ := at_T24 (Kd.R_reads' HO170.out).2.2 t171 p173 q173; cases e173; replace p173 := eq_true p173; replace q173 := eq_true q173; have hnb57 := NB165_135.out; have hnc57 := NB135_165.out; have hnb58 := NB165_0.out; have hnc58 := NB0_165.out; have hcz59_0 : w55.cell? ⟨gb165, 0, none⟩ = some (.int .i64 (wrap64 (Int.tdiv (rd y140 (rd y143 t146)) t164))) := (blk_cell BK165.out 0).trans rfl; have hcz59_1 : w55.cell? ⟨gb165, 1, none⟩ = some (.int .i64 (wrap64 (Int.tdiv (rd y158 t161) t164))) := (blk_cell BK165.out 1).trans rfl; have hfz59_0 := blk_frozen BK165.out 0; have hfz59_1 := blk_frozen BK165.out 1; have hnb60 := NB135_0.out; have hnc60 := NB0_135.out; have hcz61_0 : w55.cell? ⟨gb135, 0, none⟩ = some (.int .i64 0) := (blk_cell BK135.out 0).trans rfl; have hcz61_1 : w55.cell? ⟨gb135, 1, none⟩ = some (.int .i64 0) := (blk_cell BK135.out 1).trans rfl; have hfz61_0 := blk_frozen BK135.out 0; have hfz61_1 := blk_frozen BK135.out 1))
                          refine bodyPost_ret (results_cell_row rfl _ _ gb135 24 #[.int .i64 ((rd_T24 y168 t171).f0), .int .i64 ((rd_T24 y168 t171).f1)] (0, 0) _ rfl (by (with_reducible repeat (first | refine blk_drewN ?_ _ | refine blk_drew ?_ | refine blk_alloc ?_ _)); refine blk_put (cs := #[.int .i64 ((rd_T24 y168 t171).f0), .int .i64 0]) ?_ 1 _ rfl; (with_reducible repeat (first | refine blk_drewN ?_ _ | refine blk_drew ?_ | refine blk_alloc ?_ _)); refine blk_put (cs := #[.int .i64 0, .int .i64 0]) ?_ 0 _ rfl; (with_reducible repeat (first | refine blk_drewN ?_ _ | refine blk_drew ?_ | refine blk_alloc ?_ _)); refine blk_far ?_ NB135_165.out _; (with_reducible repeat (first | refine blk_drewN ?_ _ | refine blk_drew ?_ | refine blk_alloc ?_ _)); refine blk_far ?_ NB135_165.out _; (with_reducible repeat (first | refine blk_drewN ?_ _ | refine blk_drew ?_ | refine blk_alloc ?_ _)); exact BK135.out) Try.underlying24 rfl (by kernel_rfl)) rfl ?_
                          exact ⟨by first | rfl | (simp [errW_none, errW_some] <;> rfl) | (simp [*, errW_none, errW_some] <;> rfl), by repeat (first | (with_reducible first | exact HI0.out | apply IsS50.alloc | apply IsS50.drewN | apply IsS50.drew | apply IsS50.set_1 | refine IsS50.far ?_ NB0_135.out _ | refine IsS50.far ?_ NB0_165.out _) | exact HI0.out), by repeat (first | (with_reducible first | exact HB.out | apply below_alloc | apply pw_below_drewN | apply below_drew1 | refine below_set ?_ (IsS50.ge HI0.out) | refine below_set ?_ GE135.out | refine below_set ?_ GE165.out) | exact HB.out), by repeat (first | (with_reducible first | exact HK.out | apply KeepBut.set_ | apply keep_drewN | apply keep_drew | apply keep_alloc | refine keep_far ?_ GW135.out _ | refine keep_far ?_ GW165.out _) | exact HK.out)⟩
                        · rw [if_neg c23] at H
                          exact absurd H (by simp)
                      · rw [if_neg c22] at H
                        exact absurd H (by simp)
                    · replace c20 := Bool.eq_false_iff.mpr c20
                      subst c20
                      have H1 : (some (wrap64 (Int.tdiv (rd y140 (rd y143 t146)) t164), wrap64 (Int.tdiv (rd y158 t161) t164), t167)) = some (r1, r2, r3) := by rw [if_neg (show ¬ (false = true) by decide)] at H; exact H
                      clear H
                      have H := H1
                      clear H1
                      simp only [Option.some.injEq, Prod.mk.injEq] at H
                      obtain ⟨rfl, rfl, rfl⟩ := H
                      go_enter Try.func29, Try.ntmps29
                      try go_wp2_with (first | ((with_reducible refine gate_dst (N := 4) rfl ?_); refine box_event ?hg (N := 4) ?hd (cs := #[.int .i64 0, .int .i64 0]) (t := 24) ?hr ?_; (case hd => rfl); (case hg => rfl); (case hr => first | (go_simp; done) | (go_simp; rfl)); intro gb135 hg w62 hbox hb; have n0_ := Aside0.mk (IsS50.below (by repeat (first | (with_reducible first | exact HI0.out | apply IsS50.alloc | apply IsS50.drewN | apply IsS50.drew | apply IsS50.set_1) | exact HI0.out)) hb); have n1_ := Aside0.mk (KeepBut.trans (by repeat (first | (with_reducible first | exact HK.out | apply KeepBut.set_ | apply keep_drewN | apply keep_drew | apply keep_alloc) | exact HK.out)) (KeepBut.of_below hb g none) (.inl rfl)); have n2_ := Aside0.mk (below_step (by repeat (first | (with_reducible first | exact HB.out | apply below_alloc | apply pw_below_drewN | apply below_drew1 | refine below_set ?_ (IsS50.ge HI0.out)) | exact HB.out)) hb); have n3_ := Aside0.mk (hbox); have n4_ := Aside0.mk ((by rw [hg]; exact (keep_size (w := w) (g := g) (row := none) (by repeat (first | (with_reducible first | exact HK.out | apply KeepBut.set_ | apply keep_drewN | apply keep_drew | apply keep_alloc) | exact HK.out))) : w.heap.size ≤ gb135)); have n5_ := Aside0.mk ((Nat.le_trans HW0.out (by rw [hg]; exact (keep_size (w := w) (g := g) (row := none) (by repeat (first | (with_reducible first | exact HK.out | apply KeepBut.set_ | apply keep_drewN | apply keep_drew | apply keep_alloc) | exact HK.out))) : w.heap.size ≤ gb135) : w0.heap.size ≤ gb135)); have n6_ := Aside0.mk ((by rw [hg]; exact Nat.ne_of_lt (IsS50.lt (show IsS50 w0 _ g s0_0 s0_1 from by repeat (first | (with_reducible first | exact HI0.out | apply IsS50.alloc | apply IsS50.drewN | apply IsS50.drew | apply IsS50.set_1) | exact HI0.out))) : g ≠ gb135)); have n7_ := Aside0.mk ((by rw [hg]; exact Nat.ne_of_gt (IsS50.lt (show IsS50 w0 _ g s0_0 s0_1 from by repeat (first | (with_reducible first | exact HI0.out | apply IsS50.alloc | apply IsS50.drewN | apply IsS50.drew | apply IsS50.set_1) | exact HI0.out))) : gb135 ≠ g)); clear HI0; clear HK; clear HB; have HI0 := n0_; have HK := n1_; have HB := n2_; have BK135 := n3_; have GW135 := n4_; have GE135 := n5_; have NB0_135 := n6_; have NB135_0 := n7_; clear n0_ n1_ n2_ n3_ n4_ n5_ n6_ n7_; clear hb hbox hg) | ((with_reducible refine gate_callee (f := 30) rfl ?_); refine goesL_ (some 10) rfl rfl Try.func30 (by kernel_rfl) rfl #[.pointer (some ⟨g, 0, none⟩), .int .i64 24] rfl (by (try simp only [List.map_toArray, List.map_cons, List.map_nil]); first | done | rfl | (simp only [List.length_drop, List.length_take]; rfl)) ?_; (with_reducible refine (spec_l20Rd_pick.calls k g s0_0 s0_1 24 t136 t137 w0 _ ?side1 ?side2 A3.out).mono ?_); (case side1 => repeat (first | (with_reducible first | exact HI0.out | apply IsS50.alloc | apply IsS50.drewN | apply IsS50.drew | apply IsS50.set_1 | refine IsS50.far ?_ NB0_135.out _) | exact HI0.out)); (case side2 => repeat (first | (with_reducible first | exact HB.out | apply below_alloc | apply pw_below_drewN | apply below_drew1 | refine below_set ?_ (IsS50.ge HI0.out) | refine below_set ?_ GE135.out) | exact HB.out)); rintro e w63 ⟨rfl, hi, hb, hk⟩; refine ⟨_, rfl, ?_⟩; have n0_ := Aside0.mk (KeepBut.blk hk (g' := gb135) (o := .cells #[.int .i64 0, .int .i64 0] 24 (0, 0)) (by (with_reducible repeat (first | refine blk_drewN ?_ _ | refine blk_drew ?_ | refine blk_alloc ?_ _)); exact BK135.out) NB135_0.out (by simp)); have n1_ := Aside0.mk (KeepBut.trans (by repeat (first | (with_reducible first | exact HK.out | apply KeepBut.set_ | apply keep_drewN | apply keep_drew | apply keep_alloc | refine keep_far ?_ GW135.out _) | exact HK.out)) hk (.inl rfl)); have n2_ := Aside0.mk (hb); have n3_ := Aside0.mk (hi); clear BK135; clear HK; clear HB; clear HI0; have BK135 := n0_; have HK := n1_; have HB := n2_; have HI0 := n3_; clear n0_ n1_ n2_ n3_; (try clear hb); (try clear hb2); (try clear hk); (try clear hi)) | ((with_reducible refine gate_callee (f := 30) rfl ?_); refine goesL_ (some 13) rfl rfl Try.func30 (by kernel_rfl) rfl #[.pointer (some ⟨g, 0, none⟩), .int .i64 256] rfl (by (try simp only [List.map_toArray, List.map_cons, List.map_nil]); first | done | rfl | (simp only [List.length_drop, List.length_take]; rfl)) ?_; (with_reducible refine (spec_l20Rd_pick.calls k g s0_0 t137 256 t138 t139 w0 _ ?side1 ?side2 A4.out).mono ?_); (case side1 => repeat (first | (with_reducible first | exact HI0.out | apply IsS50.alloc | apply IsS50.drewN | apply IsS50.drew | apply IsS50.set_1 | refine IsS50.far ?_ NB0_135.out _) | exact HI0.out)); (case side2 => repeat (first | (with_reducible first | exact HB.out | apply below_alloc | apply pw_below_drewN | apply below_drew1 | refine below_set ?_ (IsS50.ge HI0.out) | refine below_set ?_ GE135.out) | exact HB.out)); rintro e w64 ⟨rfl, hi, hb, hk⟩; refine ⟨_, rfl, ?_⟩; have n0_ := Aside0.mk (KeepBut.blk hk (g' := gb135) (o := .cells #[.int .i64 0, .int .i64 0] 24 (0, 0)) (by (with_reducible repeat (first | refine blk_drewN ?_ _ | refine blk_drew ?_ | refine blk_alloc ?_ _)); exact BK135.out) NB135_0.out (by simp)); have n1_ := Aside0.mk (KeepBut.trans (by repeat (first | (with_reducible first | exact HK.out | apply KeepBut.set_ | apply keep_drewN | apply keep_drew | apply keep_alloc | refine keep_far ?_ GW135.out _) | exact HK.out)) hk (.inl rfl)); have n2_ := Aside0.mk (hb); have n3_ := Aside0.mk (hi); clear BK135; clear HK; clear HB; clear HI0; have BK135 := n0_; have HK := n1_; have HB := n2_; have HI0 := n3_; clear n0_ n1_ n2_ n3_; (try clear hb); (try clear hb2); (try clear hk); (try clear hi)) | ((with_reducible refine gate_dst (N := 15) rfl ?_); refine Kd.R_lit (Kd.int .i64) _ 3 ?hg (N := 15) ?hd (xs := ([wrap64 (t136 - 12), wrap64 (t138 * 999), 1000000000, (-1000000000)] : List Int)) (inner := [.int .i64 (wrap64 (t136 - 12)), .int .i64 (wrap64 (t138 * 999)), .int .i64 1000000000, .int .i64 (-1000000000)]) (ok := fun _ => True) (okp := fun _ => True) ?hr ?hp (fun _ hk => hk) trivial (Below.refl _ _) (Nat.le_refl _) (by simp) ?_; (case hd => rfl); (case hg => rfl); (case hr => first | (go_simp; done) | (go_simp; rfl)); (case hp => exact (Reps.one (show Kd.M (Kd.int .i64) _ _ _ (wrap64 (t136 - 12)) [.int .i64 (wrap64 (t136 - 12))] from rfl) (Reps.one (show Kd.M (Kd.int .i64) _ _ _ (wrap64 (t138 * 999)) [.int .i64 (wrap64 (t138 * 999))] from rfl) (Reps.one (show Kd.M (Kd.int .i64) _ _ _ 1000000000 [.int .i64 1000000000] from rfl) (Reps.one (show Kd.M (Kd.int .i64) _ _ _ (-1000000000) [.int .i64 (-1000000000)] from rfl) (Reps.none _ _)))))); intro v141 w65 ho66 hb hg_ hnew_; clear hg_ hnew_; (first | rw [← Ny140.out] at ho66 | (simp only [Int.reduceToNat] at ho66; rw [← Ny140.out] at ho66)); have n0_ := Aside0.mk (Kd.R_lower ho66 (keep_size (w := w) (g := g) (row := none) (by repeat (first | (with_reducible first | exact HK.out | apply KeepBut.set_ | apply keep_drewN | apply keep_drew | apply keep_alloc | refine keep_far ?_ GW135.out _) | exact HK.out)))); have n1_ := Aside0.mk (IsS50.below (by repeat (first | (with_reducible first | exact HI0.out | apply IsS50.alloc | apply IsS50.drewN | apply IsS50.drew | apply IsS50.set_1 | refine IsS50.far ?_ NB0_135.out _) | exact HI0.out)) hb); have n2_ := Aside0.mk (blk_below (g := gb135) (o := .cells #[.int .i64 0, .int .i64 0] 24 (0, 0)) (by (with_reducible repeat (first | refine blk_drewN ?_ _ | refine blk_drew ?_ | refine blk_alloc ?_ _)); exact BK135.out) hb); have n3_ := Aside0.mk (KeepBut.trans (by repeat (first | (with_reducible first | exact HK.out | apply KeepBut.set_ | apply keep_drewN | apply keep_drew | apply keep_alloc | refine keep_far ?_ GW135.out _) | exact HK.out)) (KeepBut.of_below hb g none) (.inl rfl)); have n4_ := Aside0.mk (below_step (by repeat (first | (with_reducible first | exact HB.out | apply below_alloc | apply pw_below_drewN | apply below_drew1 | refine below_set ?_ (IsS50.ge HI0.out) | refine below_set ?_ GE135.out) | exact HB.out)) hb); clear HI0; clear BK135; clear HK; clear HB; have HO142 := n0_; have HI0 := n1_; have BK135 := n2_; have HK := n3_; have HB := n4_; clear n0_ n1_ n2_ n3_ n4_; clear hb ho66) | ((with_reducible refine gate_dst (N := 16) rfl ?_); refine Kd.R_lit (Kd.int .i64) _ 3 ?hg (N := 16) ?hd (xs := ([0, 0, 0, 1, 2, 3] : List Int)) (inner := [.int .i64 0, .int .i64 0, .int .i64 0, .int .i64 1, .int .i64 2, .int .i64 3]) (ok := fun _ => True) (okp := fun _ => True) ?hr ?hp (fun _ hk => hk) trivial (Below.refl _ _) (Nat.le_refl _) (by simp) ?_; (case hd => rfl); (case hg => rfl); (case hr => first | (go_simp; done) | (go_simp; rfl)); (case hp => exact (Reps.one (show Kd.M (Kd.int .i64) _ _ _ 0 [.int .i64 0] from rfl) (Reps.one (show Kd.M (Kd.int .i64) _ _ _ 0 [.int .i64 0] from rfl) (Reps.one (show Kd.M (Kd.int .i64) _ _ _ 0 [.int .i64 0] from rfl) (Reps.one (show Kd.M (Kd.int .i64) _ _ _ 1 [.int .i64 1] from rfl) (Reps.one (show Kd.M (Kd.int .i64) _ _ _ 2 [.int .i64 2] from rfl) (Reps.one (show Kd.M (Kd.int .i64) _ _ _ 3 [.int .i64 3] from rfl) (Reps.none _ _)))))))); intro v144 w67 ho68 hb hg_ hnew_; clear hg_ hnew_; (first | rw [← Ny143.out] at ho68 | (simp only [Int.reduceToNat] at ho68; rw [← Ny143.out] at ho68)); have n0_ := Aside0.mk (Kd.R_elder' (by (with_reducible repeat (first | apply Kd.R_alloc | apply Kd.R_drewN | apply Kd.R_drew)); exact HO142.out) (Kd.R_base ho68) hb); have n1_ := Aside0.mk (Kd.R_lower (Kd.R_new' ho68 (Kd.R_lt (by (with_reducible repeat (first | apply Kd.R_alloc | apply Kd.R_drewN | apply Kd.R_drew)); exact HO142.out))) (keep_size (w := w) (g := g) (row := none) (by repeat (first | (with_reducible first | exact HK.out | apply KeepBut.set_ | apply keep_drewN | apply keep_drew | apply keep_alloc | refine keep_far ?_ GW135.out _) | exact HK.out)))); have n2_ := Aside0.mk (IsS50.below (by repeat (first | (with_reducible first | exact HI0.out | apply IsS50.alloc | apply IsS50.drewN | apply IsS50.drew | apply IsS50.set_1 | refine IsS50.far ?_ NB0_135.out _) | exact HI0.out)) hb); have n3_ := Aside0.mk (blk_below (g := gb135) (o := .cells #[.int .i64 0, .int .i64 0] 24 (0, 0)) (by (with_reducible repeat (first | refine blk_drewN ?_ _ | refine blk_drew ?_ | refine blk_alloc ?_ _)); exact BK135.out) hb); have n4_ := Aside0.mk (KeepBut.trans (by repeat (first | (with_reducible first | exact HK.out | apply KeepBut.set_ | apply keep_drewN | apply keep_drew | apply keep_alloc | refine keep_far ?_ GW135.out _) | exact HK.out)) (KeepBut.of_below hb g none) (.inl rfl)); have n5_ := Aside0.mk (below_step (by repeat (first | (with_reducible first | exact HB.out | apply below_alloc | apply pw_below_drewN | apply below_drew1 | refine below_set ?_ (IsS50.ge HI0.out) | refine below_set ?_ GE135.out) | exact HB.out)) hb); clear HO142; clear HI0; clear BK135; clear HK; clear HB; have HO142 := n0_; have HO145 := n1_; have HI0 := n2_; have BK135 := n3_; have HK := n4_; have HB := n5_; clear n0_ n1_ n2_ n3_ n4_ n5_; clear hb ho68) | ((with_reducible refine gate_callee (f := 30) rfl ?_); refine goesL_ (some 18) rfl rfl Try.func30 (by kernel_rfl) rfl #[.pointer (some ⟨g, 0, none⟩), .int .i64 6] rfl (by (try simp only [List.map_toArray, List.map_cons, List.map_nil]); first | done | rfl | (simp only [List.length_drop, List.length_take]; rfl)) ?_; (with_reducible refine (spec_l20Rd_pick.calls k g s0_0 t139 6 t146 t147 w0 _ ?side1 ?side2 A5.out).mono ?_); (case side1 => repeat (first | (with_reducible first | exact HI0.out | apply IsS50.alloc | apply IsS50.drewN | apply IsS50.drew | apply IsS50.set_1 | refine IsS50.far ?_ NB0_135.out _) | exact HI0.out)); (case side2 => repeat (first | (with_reducible first | exact HB.out | apply below_alloc | apply pw_below_drewN | apply below_drew1 | refine below_set ?_ (IsS50.ge HI0.out) | refine below_set ?_ GE135.out) | exact HB.out)); rintro e w69 ⟨rfl, hi, hb, hk⟩; refine ⟨_, rfl, ?_⟩; have n0_ := Aside0.mk (KeepBut.blk hk (g' := gb135) (o := .cells #[.int .i64 0, .int .i64 0] 24 (0, 0)) (by (with_reducible repeat (first | refine blk_drewN ?_ _ | refine blk_drew ?_ | refine blk_alloc ?_ _)); exact BK135.out) NB135_0.out (by simp)); have n1_ := Aside0.mk (Kd.R_mono (Kd.R_keep (IsS50.apart (show IsS50 w0 _ g s0_0 t139 from by repeat (first | (with_reducible first | exact HI0.out | apply IsS50.alloc | apply IsS50.drewN | apply IsS50.drew | apply IsS50.set_1 | refine IsS50.far ?_ NB0_135.out _) | exact HI0.out)) (by (with_reducible repeat (first | apply Kd.R_alloc | apply Kd.R_drewN | apply Kd.R_drew)); exact HO142.out) (by decide)) hk (fun _ h => h.2)) (fun _ h => h.1)); have n2_ := Aside0.mk (Kd.R_mono (Kd.R_keep (IsS50.apart (show IsS50 w0 _ g s0_0 t139 from by repeat (first | (with_reducible first | exact HI0.out | apply IsS50.alloc | apply IsS50.drewN | apply IsS50.drew | apply IsS50.set_1 | refine IsS50.far ?_ NB0_135.out _) | exact HI0.out)) (by (with_reducible repeat (first | apply Kd.R_alloc | apply Kd.R_drewN | apply Kd.R_drew)); exact HO145.out) (by decide)) hk (fun _ h => h.2)) (fun _ h => h.1)); have n3_ := Aside0.mk (KeepBut.trans (by repeat (first | (with_reducible first | exact HK.out | apply KeepBut.set_ | apply keep_drewN | apply keep_drew | apply keep_alloc | refine keep_far ?_ GW135.out _) | exact HK.out)) hk (.inl rfl)); have n4_ := Aside0.mk (hb); have n5_ := Aside0.mk (hi); clear BK135; clear HO142; clear HO145; clear HK; clear HB; clear HI0; have BK135 := n0_; have HO142 := n1_; have HO145 := n2_; have HK := n3_; have HB := n4_; have HI0 := n5_; clear n0_ n1_ n2_ n3_ n4_ n5_; (try clear hb); (try clear hb2); (try clear hk); (try clear hi); obtain ⟨Ao70, co70, eo70⟩ := Kd.R_slice HO145.out; subst eo70; have p148 : 0 ≤ (t146 : Int) := of_decide_eq_true (by first | (with_reducible assumption) | assumption); have q148 : t146 < (y143.length : Int) := of_decide_eq_true (by first | (with_reducible assumption) | assumption); obtain ⟨ad148, e148, hx148_0⟩ := Kd.at_int (Kd.R_reads' HO145.out).2.2 t146 p148 q148; cases e148; replace p148 := eq_true p148; replace q148 := eq_true q148; obtain ⟨Ao71, co71, eo71⟩ := Kd.R_slice HO142.out; subst eo71; have p149 : 0 ≤ ((rd y143 t146) : Int) := of_decide_eq_true (by first | (with_reducible assumption) | assumption); have q149 : (rd y143 t146) < (y140.length : Int) := of_decide_eq_true (by first | (with_reducible assumption) | assumption); obtain ⟨ad149, e149, hx149_0⟩ := Kd.at_int (Kd.R_reads' HO142.out).2.2 (rd y143 t146) p149 q149; cases e149; replace p149 := eq_true p149; replace q149 := eq_true q149))
                      have pi157 : (0 ≤ (t155 : Int)) = True := eq_true (of_decide_eq_true (by first | (with_reducible assumption) | assumption))
                      have qi157 : (t155 < (y152.length : Int)) = True := eq_true (of_decide_eq_true (by first | (with_reducible assumption) | assumption))
                      have pi163 : (0 ≤ (t161 : Int)) = True := eq_true (of_decide_eq_true (by first | (with_reducible assumption) | assumption))
                      have qi163 : (t161 < (y158.length : Int)) = True := eq_true (of_decide_eq_true (by first | (with_reducible assumption) | assumption))
                      have n0_ := Aside0.mk (Kd.R_drew HO142.out)
                      have n1_ := Aside0.mk (Kd.R_drew HO145.out)
                      have n2_ := Aside0.mk (blk_drew BK135.out)
                      have n3_ := Aside0.mk (IsS50.drew HI0.out)
                      have n4_ := Aside0.mk (keep_drew HK.out)
                      have n5_ := Aside0.mk (below_drew1 HB.out)
                      clear HO142
                      clear HO145
                      clear BK135
                      clear HI0
                      clear HK
                      clear HB
                      have HO142 := n0_
                      have HO145 := n1_
                      have BK135 := n2_
                      have HI0 := n3_
                      have HK := n4_
                      have HB := n5_
                      clear n0_ n1_ n2_ n3_ n4_ n5_
                      refine start_ (n := 14) (S := fun w' => True) (ds := []) #[false, false, false, false, false, false, false, false, false, false, false, false, false, false] (by kernel_rfl) rfl rfl trivial (fun hHeld => ?_); refine with_tabW spec_l20Fraction.tab2 spec_l20Fraction.bits2 (fun HT_ HW_ => ?_)
                      generalize w69.drew = w72 at HO142 HO145 BK135 HI0 HK HB hHeld ⊢
                      refine pure_ (i := 0) (N := some 23) (v := ?_) (a' := ?_) #[true, false, false, false, false, false, false, false, false, false, false, false, false, false] rfl rfl (any_of HT_.out (by kernel_rfl)) (fun _ _ _ h => h) (Or.inl ⟨by rfl, ?_⟩) ?_ ?_
                      rotate_left
                      · intro w'
                        go_simp
                        with_reducible rfl
                      rotate_left
                      · simp only [Act.put, List.setIfInBounds_toArray, List.set_cons_zero, List.set_cons_succ, i64_w, i32_w]
                        rfl
                      refine pure_ (i := 4) (N := some 27) (v := ?_) (a' := ?_) #[true, false, false, false, true, false, false, false, false, false, false, false, false, false] rfl rfl (any_of HT_.out (by kernel_rfl)) (fun _ _ _ h => h) (Or.inl ⟨by rfl, ?_⟩) ?_ ?_
                      rotate_left
                      · intro w'
                        go_simp
                        with_reducible rfl
                      rotate_left
                      · simp only [Act.put, List.setIfInBounds_toArray, List.set_cons_zero, List.set_cons_succ, i64_w, i32_w]
                        rfl
                      refine pure_ (i := 9) (N := some 32) (v := ?_) (a' := ?_) #[true, false, false, false, true, false, false, false, false, true, false, false, false, false] rfl rfl (any_of HT_.out (by kernel_rfl)) (fun _ _ _ h => h) (Or.inl ⟨by rfl, ?_⟩) ?_ ?_
                      rotate_left
                      · intro w'
                        go_simp
                        with_reducible rfl
                      rotate_left
                      · simp only [Act.put, List.setIfInBounds_toArray, List.set_cons_zero, List.set_cons_succ, i64_w, i32_w]
                        rfl
                      refine inv_at [1, 2, 3, 5, 6, 7, 8, 10, 11, 12, 13] (fun a0_ b a w' => ∃ (v153 : Value) (adz_v153 : Addr) (v159 : Value) (adz_v159 : Addr) (m6_ : Value) (m11_ : Value), a = putSel a0_ b [(1, 24, .int .i64 t150), (2, 25, .int .i64 (wrap64 (1 + t150))), (3, 26, v153), (5, 28, .int .i64 t155), (6, 29, m6_), (7, 30, .int .i64 (rd y152 t155)), (8, 31, v159), (10, 33, .int .i64 t161), (11, 34, m11_), (12, 35, .int .i64 (rd y158 t161)), (13, 6, .int .i64 (rd y158 t161))] ∧ (Kd.R (Kd.int .i64) 3 w' w.heap.size (fun k_ => True ∧ some k_ ≠ (.slice (some ad148) y143.length co70 : Value).ownBlock) (.slice (some ad149) y140.length co71) y140) ∧ (Kd.R (Kd.int .i64) 3 w' w.heap.size (fun k_ => True ∧ some k_ ≠ (.slice (some ad149) y140.length co71 : Value).ownBlock) (.slice (some ad148) y143.length co70) y143) ∧ (w'.heap[gb135]? = some (.cells #[.int .i64 0, .int .i64 0] 24 (0, 0))) ∧ (b 1 = false → IsS50 w0 w' g s0_0 t147) ∧ (KeepBut w w' g none) ∧ (Below w0.heap.size w0 w') ∧ (b 1 = true → b 5 = false → IsS50 w0 w' g s0_0 t151) ∧ (b 3 = true → Kd.R (Kd.int .i64) 3 w' w.heap.size (fun k_ => some k_ ≠ (.slice (some ad149) y140.length co71 : Value).ownBlock ∧ some k_ ≠ (.slice (some ad148) y143.length co70 : Value).ownBlock) v153 y152) ∧ (b 3 = true → ∃ c_, (v153 : Value) = .slice (some adz_v153) y152.length c_) ∧ (b 5 = true → b 10 = false → IsS50 w0 w' g s0_0 t156) ∧ (b 8 = true → Kd.R (Kd.int .i64) 3 w' w.heap.size (fun k_ => some k_ ≠ (.slice (some ad149) y140.length co71 : Value).ownBlock ∧ some k_ ≠ (.slice (some ad148) y143.length co70 : Value).ownBlock) v159 y158) ∧ (b 8 = true → ∃ c_, (v159 : Value) = .slice (some adz_v159) y158.length c_) ∧ (b 10 = true → IsS50 w0 w' g s0_0 t162) ∧ (b 6 = true → (m6_ : Value) = .pointer (some (adz_v153.add (t155).toNat))) ∧ (b 11 = true → (m11_ : Value) = .pointer (some (adz_v159.add (t161).toNat)))) HT_.out HW_.out (by kernel_rfl) (by kernel_rfl) ?_ ?_ ?_
                      · exact ⟨.bool false, ⟨0, 0, none⟩, .bool false, ⟨0, 0, none⟩, .bool false, .bool false, by simp only [putSel, Bool.false_eq_true, if_false], HO142.out, HO145.out, BK135.out, fun _ => HI0.out, HK.out, HB.out, fun h_ => absurd h_ (by decide), fun h_ => absurd h_ (by decide), fun h_ => absurd h_ (by decide), fun h_ => absurd h_ (by decide), fun h_ => absurd h_ (by decide), fun h_ => absurd h_ (by decide), fun h_ => absurd h_ (by decide), fun h_ => absurd h_ (by decide), fun h_ => absurd h_ (by decide)⟩
                      · skip
                        clear BK135 HB HI0 HK HO142 HO145
                        refine steps_cons ?_ ?_
                        · rintro b a w' ⟨v153, adz_v153, v159, adz_v159, m6_, m11_, ha, Q_HO142, Q_HO145, Q_BK135, Q_HI0, Q_HK, Q_HB, Q_HI0_e1, Q_HO154, Q_HA_HO154, Q_HI0_e5, Q_HO160, Q_HA_HO160, Q_HI0_e10, Q_X6_, Q_X11_⟩ hb_ hon hoff
                          refine ⟨_, rfl, fun K hK => ?_⟩
                          have e23 : a.tmps[23]? = some (.pointer (some ⟨g, 0, none⟩)) := by rw [ha]; exact (putSel_off rfl).trans rfl
                          replace ha := Aside0.mk ha
                          have HO142 := Aside0.mk Q_HO142
                          have HO145 := Aside0.mk Q_HO145
                          have BK135 := Aside0.mk Q_BK135
                          have HI0 := Aside0.mk (Q_HI0 hb_)
                          have HK := Aside0.mk Q_HK
                          have HB := Aside0.mk Q_HB
                          refine goes_ Try.func30 (by kernel_rfl) rfl #[.pointer (some ⟨g, 0, none⟩), .int .i64 9] (by rfl) rfl rfl (by first | (simp only [List.map_toArray, List.map_cons, List.map_nil, Act.eval, Array.getD_eq_getD_getElem?, Option.getD_some, e23]; done) | (simp only [List.map_toArray, List.map_cons, List.map_nil, Act.eval, Array.getD_eq_getD_getElem?, Option.getD_some, e23]; rfl)) ?_
                          with_reducible refine (spec_l20Rd_pick.calls k g s0_0 t147 9 t150 t151 w0 _ ?side1 ?side2 A10.out).mono ?_
                          (case side1 => repeat (first | (with_reducible first | exact HI0.out | apply IsS50.alloc | apply IsS50.drewN | apply IsS50.drew | apply IsS50.set_1 | refine IsS50.far ?_ NB0_135.out _) | exact HI0.out))
                          (case side2 => repeat (first | (with_reducible first | exact HB.out | apply below_alloc | apply pw_below_drewN | apply below_drew1 | refine below_set ?_ (IsS50.ge HI0.out) | refine below_set ?_ GE135.out) | exact HB.out))
                          rintro e w73 ⟨rfl, hi, hb, hk⟩
                          refine ⟨_, rfl, ?_⟩
                          have n0_ := Aside0.mk (KeepBut.blk hk (g' := gb135) (o := .cells #[.int .i64 0, .int .i64 0] 24 (0, 0)) (by (with_reducible repeat (first | refine blk_drewN ?_ _ | refine blk_drew ?_ | refine blk_alloc ?_ _)); exact BK135.out) NB135_0.out (by simp))
                          have n1_ := Aside0.mk (Kd.R_mono (Kd.R_keep (IsS50.apart (show IsS50 w0 _ g s0_0 t147 from by repeat (first | (with_reducible first | exact HI0.out | apply IsS50.alloc | apply IsS50.drewN | apply IsS50.drew | apply IsS50.set_1 | refine IsS50.far ?_ NB0_135.out _) | exact HI0.out)) (by (with_reducible repeat (first | apply Kd.R_alloc | apply Kd.R_drewN | apply Kd.R_drew)); exact HO142.out) (by decide)) hk (fun _ h => h.2)) (fun _ h => h.1))
                          have n2_ := Aside0.mk (Kd.R_mono (Kd.R_keep (IsS50.apart (show IsS50 w0 _ g s0_0 t147 from by repeat (first | (with_reducible first | exact HI0.out | apply IsS50.alloc | apply IsS50.drewN | apply IsS50.drew | apply IsS50.set_1 | refine IsS50.far ?_ NB0_135.out _) | exact HI0.out)) (by (with_reducible repeat (first | apply Kd.R_alloc | apply Kd.R_drewN | apply Kd.R_drew)); exact HO145.out) (by decide)) hk (fun _ h => h.2)) (fun _ h => h.1))
                          have n3_ := Aside0.mk (KeepBut.trans (by repeat (first | (with_reducible first | exact HK.out | apply KeepBut.set_ | apply keep_drewN | apply keep_drew | apply keep_alloc | refine keep_far ?_ GW135.out _) | exact HK.out)) hk (.inl rfl))
                          have n4_ := Aside0.mk (hb)
                          have n5_ := Aside0.mk (hi)
                          have z_HO154 := fun (h0_ : b 3 = true) => (show Kd.R (Kd.int .i64) 3 w73 w.heap.size (fun k_ => some k_ ≠ (.slice (some ad149) y140.length co71 : Value).ownBlock ∧ some k_ ≠ (.slice (some ad148) y143.length co70 : Value).ownBlock) v153 y152 from by first | exact (Kd.R_mono (Kd.R_keep (IsS50.apart (show IsS50 w0 _ g s0_0 t147 from by repeat (first | (with_reducible first | exact HI0.out | apply IsS50.alloc | apply IsS50.drewN | apply IsS50.drew | apply IsS50.set_1 | refine IsS50.far ?_ NB0_135.out _) | exact HI0.out)) (by (with_reducible repeat (first | apply Kd.R_alloc | apply Kd.R_drewN | apply Kd.R_drew)); exact (Q_HO154 h0_)) (by decide)) hk (fun _ h => h.2)) (fun _ h => h.1)) | exact Kd.R_mono (Kd.R_mono (Kd.R_keep (IsS50.apart (show IsS50 w0 _ g s0_0 t147 from by repeat (first | (with_reducible first | exact HI0.out | apply IsS50.alloc | apply IsS50.drewN | apply IsS50.drew | apply IsS50.set_1 | refine IsS50.far ?_ NB0_135.out _) | exact HI0.out)) (by (with_reducible repeat (first | apply Kd.R_alloc | apply Kd.R_drewN | apply Kd.R_drew)); exact (Q_HO154 h0_)) (by decide)) hk (fun _ h => h.2)) (fun _ h => h.1)) (fun _ h_ => by first | trivial | exact h_ | exact h_.1))
                          clear BK135
                          clear HO142
                          clear HO145
                          clear HK
                          clear HB
                          clear HI0
                          have BK135 := n0_
                          have HO142 := n1_
                          have HO145 := n2_
                          have HK := n3_
                          have HB := n4_
                          have HI0 := n5_
                          clear n0_ n1_ n2_ n3_ n4_ n5_
                          (try clear hb)
                          (try clear hb2)
                          (try clear hk)
                          (try clear hi)
                          refine hK.out _ _ ⟨v153, adz_v153, v159, adz_v159, m6_, m11_, (by rw [ha.out]; exact putSel_upk 0 hb_ rfl rfl rfl), (by (with_reducible repeat (first | apply Kd.R_alloc | apply Kd.R_drewN | apply Kd.R_drew)); exact Kd.R_mono HO142.out (fun _ hk => by first | grind | (simp only [true_and, and_assoc] at hk ⊢; grind))), (by (with_reducible repeat (first | apply Kd.R_alloc | apply Kd.R_drewN | apply Kd.R_drew)); exact Kd.R_mono HO145.out (fun _ hk => by first | grind | (simp only [true_and, and_assoc] at hk ⊢; grind))), (by (with_reducible repeat (first | refine blk_drewN ?_ _ | refine blk_drew ?_ | refine blk_alloc ?_ _)); exact BK135.out), fun h0_ => absurd ((up_self b 1).symm.trans h0_) (by decide), (by repeat (first | (with_reducible first | exact HK.out | apply KeepBut.set_ | apply keep_drewN | apply keep_drew | apply keep_alloc | refine keep_far ?_ GW135.out _) | exact HK.out)), (by repeat (first | (with_reducible first | exact HB.out | apply below_alloc | apply pw_below_drewN | apply below_drew1 | refine below_set ?_ (IsS50.ge HI0.out) | refine below_set ?_ GE135.out) | exact HB.out)), fun _ _ => (by repeat (first | (with_reducible first | exact HI0.out | apply IsS50.alloc | apply IsS50.drewN | apply IsS50.drew | apply IsS50.set_1 | refine IsS50.far ?_ NB0_135.out _) | exact HI0.out)), z_HO154, Q_HA_HO154, fun h0_ _ => absurd ((hoff 5 (by kernel_rfl)).symm.trans h0_) (by decide), fun h0_ => absurd ((hoff 8 (by kernel_rfl)).symm.trans h0_) (by decide), fun h0_ => absurd ((hoff 8 (by kernel_rfl)).symm.trans h0_) (by decide), fun h0_ => absurd ((hoff 10 (by kernel_rfl)).symm.trans h0_) (by decide), fun h0_ => absurd ((hoff 6 (by kernel_rfl)).symm.trans h0_) (by decide), fun h0_ => absurd ((hoff 11 (by kernel_rfl)).symm.trans h0_) (by decide)⟩
                        refine steps_cons ?_ ?_
                        · rintro b a w' ⟨v153, adz_v153, v159, adz_v159, m6_, m11_, ha, Q_HO142, Q_HO145, Q_BK135, Q_HI0, Q_HK, Q_HB, Q_HI0_e1, Q_HO154, Q_HA_HO154, Q_HI0_e5, Q_HO160, Q_HA_HO160, Q_HI0_e10, Q_X6_, Q_X11_⟩ hb_ hon hoff
                          refine ⟨_, rfl, fun K hK => ?_⟩
                          have e24 : a.tmps[24]? = some (.int .i64 t150) := by rw [ha]; exact putSel_on (e := (1, 24, .int .i64 t150)) 0 rfl rfl (hon 1 (by kernel_rfl)) rfl
                          replace ha := Aside0.mk ha
                          have HO142 := Aside0.mk Q_HO142
                          have HO145 := Aside0.mk Q_HO145
                          have BK135 := Aside0.mk Q_BK135
                          have HK := Aside0.mk Q_HK
                          have HB := Aside0.mk Q_HB
                          refine value_ (w1 := w') (v := .int .i64 (wrap64 (1 + t150))) (by rfl) rfl ?_ ?_
                          · go_simp
                            (try simp only [i64_w])
                            try rfl
                          refine hK.out _ _ ⟨v153, adz_v153, v159, adz_v159, m6_, m11_, (by rw [ha.out]; exact putSel_upk 1 hb_ rfl rfl rfl), Q_HO142, Q_HO145, Q_BK135, fun h0_ => absurd ((hon 1 (by kernel_rfl)).symm.trans h0_) (by decide), Q_HK, Q_HB, Q_HI0_e1, Q_HO154, Q_HA_HO154, Q_HI0_e5, fun h0_ => absurd ((hoff 8 (by kernel_rfl)).symm.trans h0_) (by decide), fun h0_ => absurd ((hoff 8 (by kernel_rfl)).symm.trans h0_) (by decide), Q_HI0_e10, Q_X6_, fun h0_ => absurd ((hoff 11 (by kernel_rfl)).symm.trans h0_) (by decide)⟩
                        refine steps_cons ?_ ?_
                        · rintro b a w' ⟨v153, adz_v153, v159, adz_v159, m6_, m11_, ha, Q_HO142, Q_HO145, Q_BK135, Q_HI0, Q_HK, Q_HB, Q_HI0_e1, Q_HO154, Q_HA_HO154, Q_HI0_e5, Q_HO160, Q_HA_HO160, Q_HI0_e10, Q_X6_, Q_X11_⟩ hb_ hon hoff
                          refine ⟨_, rfl, fun K hK => ?_⟩
                          replace ha := Aside0.mk ha
                          have HO142 := Aside0.mk Q_HO142
                          have HO145 := Aside0.mk Q_HO145
                          have BK135 := Aside0.mk Q_BK135
                          have HK := Aside0.mk Q_HK
                          have HB := Aside0.mk Q_HB
                          refine Kd.R_lit_step (Kd.int .i64) _ 3 ?hg (N := 26) ?hd (xs := ([2, 4, 10, 100, 1000, 1000000] : List Int)) (inner := [.int .i64 2, .int .i64 4, .int .i64 10, .int .i64 100, .int .i64 1000, .int .i64 1000000]) (ok := fun _ => True) (okp := fun _ => True) ?hr ?hp (fun _ hk => hk) trivial (Below.refl _ _) (Nat.le_refl _) (by simp) ?_; (case hd => rfl); (case hg => rfl); (case hr => first | (go_simp; done) | (go_simp; rfl)); (case hp => exact (Reps.one (show Kd.M (Kd.int .i64) _ _ _ 2 [.int .i64 2] from rfl) (Reps.one (show Kd.M (Kd.int .i64) _ _ _ 4 [.int .i64 4] from rfl) (Reps.one (show Kd.M (Kd.int .i64) _ _ _ 10 [.int .i64 10] from rfl) (Reps.one (show Kd.M (Kd.int .i64) _ _ _ 100 [.int .i64 100] from rfl) (Reps.one (show Kd.M (Kd.int .i64) _ _ _ 1000 [.int .i64 1000] from rfl) (Reps.one (show Kd.M (Kd.int .i64) _ _ _ 1000000 [.int .i64 1000000] from rfl) (Reps.none _ _))))))))
                          intro v153 w73 ho74 hb hg_ hnew_
                          clear hg_ hnew_
                          (first | rw [← Ny152.out] at ho74 | (simp only [Int.reduceToNat] at ho74; rw [← Ny152.out] at ho74))
                          have n0_ := Aside0.mk (Kd.R_elder' (by (with_reducible repeat (first | apply Kd.R_alloc | apply Kd.R_drewN | apply Kd.R_drew)); exact HO142.out) (Kd.R_base ho74) hb)
                          have n1_ := Aside0.mk (Kd.R_elder' (by (with_reducible repeat (first | apply Kd.R_alloc | apply Kd.R_drewN | apply Kd.R_drew)); exact HO145.out) (Kd.R_base ho74) hb)
                          have n2_ := Aside0.mk (Kd.R_lower (Kd.R_new' (Kd.R_new' ho74 (Kd.R_lt (by (with_reducible repeat (first | apply Kd.R_alloc | apply Kd.R_drewN | apply Kd.R_drew)); exact HO142.out))) (Kd.R_lt (by (with_reducible repeat (first | apply Kd.R_alloc | apply Kd.R_drewN | apply Kd.R_drew)); exact HO145.out))) (keep_size (w := w) (g := g) (row := none) (by repeat (first | (with_reducible first | exact HK.out | apply KeepBut.set_ | apply keep_drewN | apply keep_drew | apply keep_alloc | refine keep_far ?_ GW135.out _) | exact HK.out))))
                          have n4_ := Aside0.mk (blk_below (g := gb135) (o := .cells #[.int .i64 0, .int .i64 0] 24 (0, 0)) (by (with_reducible repeat (first | refine blk_drewN ?_ _ | refine blk_drew ?_ | refine blk_alloc ?_ _)); exact BK135.out) hb)
                          have n5_ := Aside0.mk (KeepBut.trans (by repeat (first | (with_reducible first | exact HK.out | apply KeepBut.set_ | apply keep_drewN | apply keep_drew | apply keep_alloc | refine keep_far ?_ GW135.out _) | exact HK.out)) (KeepBut.of_below hb g none) (.inl rfl))
                          have n6_ := Aside0.mk (below_step (by repeat (first | (with_reducible first | exact HB.out | apply below_alloc | apply pw_below_drewN | apply below_drew1 | refine below_set ?_ GE135.out) | exact HB.out)) hb)
                          have z_HI0 := fun (h0_ : b 1 = false) => (show IsS50 w0 w73 g s0_0 t147 from by first | exact (IsS50.below (by repeat (first | (with_reducible first | exact (Q_HI0 h0_) | apply IsS50.alloc | apply IsS50.drewN | apply IsS50.drew | apply IsS50.set_1 | refine IsS50.far ?_ NB0_135.out _) | exact (Q_HI0 h0_))) hb))
                          have z_HI0_e1 := fun (h0_ : b 1 = true) (h1_ : b 5 = false) => (show IsS50 w0 w73 g s0_0 t151 from by first | exact (IsS50.below (by repeat (first | (with_reducible first | exact (Q_HI0_e1 h0_ h1_) | apply IsS50.alloc | apply IsS50.drewN | apply IsS50.drew | apply IsS50.set_1 | refine IsS50.far ?_ NB0_135.out _) | exact (Q_HI0_e1 h0_ h1_))) hb))
                          have z_HI0_e5 := fun (h0_ : b 5 = true) (h1_ : b 10 = false) => (show IsS50 w0 w73 g s0_0 t156 from by first | exact (IsS50.below (by repeat (first | (with_reducible first | exact (Q_HI0_e5 h0_ h1_) | apply IsS50.alloc | apply IsS50.drewN | apply IsS50.drew | apply IsS50.set_1 | refine IsS50.far ?_ NB0_135.out _) | exact (Q_HI0_e5 h0_ h1_))) hb))
                          have z_HI0_e10 := fun (h0_ : b 10 = true) => (show IsS50 w0 w73 g s0_0 t162 from by first | exact (IsS50.below (by repeat (first | (with_reducible first | exact (Q_HI0_e10 h0_) | apply IsS50.alloc | apply IsS50.drewN | apply IsS50.drew | apply IsS50.set_1 | refine IsS50.far ?_ NB0_135.out _) | exact (Q_HI0_e10 h0_))) hb))
                          clear HO142
                          clear HO145
                          clear BK135
                          clear HK
                          clear HB
                          have HO142 := n0_
                          have HO145 := n1_
                          have HO154 := n2_
                          have BK135 := n4_
                          have HK := n5_
                          have HB := n6_
                          clear n0_ n1_ n2_ n4_ n5_ n6_
                          clear hb ho74
                          obtain ⟨Ao75, co75, eo75⟩ := Kd.R_slice HO154.out
                          subst eo75
                          obtain ⟨ado75, fo75, _⟩ := Kd.at_int (Kd.R_reads' HO154.out).2.2 0 (by decide) (by rw [Ny152.out]; simp)
                          cases fo75
                          refine hK.out _ _ ⟨.slice (some ado75) y152.length co75, ado75, v159, adz_v159, m6_, m11_, (by rw [ha.out]; exact putSel_upk 2 hb_ rfl rfl rfl), (by (with_reducible repeat (first | apply Kd.R_alloc | apply Kd.R_drewN | apply Kd.R_drew)); exact Kd.R_mono HO142.out (fun _ hk => by first | grind | (simp only [true_and, and_assoc] at hk ⊢; grind))), (by (with_reducible repeat (first | apply Kd.R_alloc | apply Kd.R_drewN | apply Kd.R_drew)); exact Kd.R_mono HO145.out (fun _ hk => by first | grind | (simp only [true_and, and_assoc] at hk ⊢; grind))), (by (with_reducible repeat (first | refine blk_drewN ?_ _ | refine blk_drew ?_ | refine blk_alloc ?_ _)); exact BK135.out), z_HI0, (by repeat (first | (with_reducible first | exact HK.out | apply KeepBut.set_ | apply keep_drewN | apply keep_drew | apply keep_alloc | refine keep_far ?_ GW135.out _) | exact HK.out)), (by repeat (first | (with_reducible first | exact HB.out | apply below_alloc | apply pw_below_drewN | apply below_drew1 | refine below_set ?_ GE135.out) | exact HB.out)), z_HI0_e1, fun _ => (by (with_reducible repeat (first | apply Kd.R_alloc | apply Kd.R_drewN | apply Kd.R_drew)); exact Kd.R_mono HO154.out (fun _ hk => by first | grind | (simp only [true_and, and_assoc] at hk ⊢; grind))), fun _ => ⟨_, rfl⟩, z_HI0_e5, fun h0_ => absurd ((hoff 8 (by kernel_rfl)).symm.trans h0_) (by decide), fun h0_ => absurd ((hoff 8 (by kernel_rfl)).symm.trans h0_) (by decide), z_HI0_e10, fun h0_ => absurd ((hoff 6 (by kernel_rfl)).symm.trans h0_) (by decide), fun h0_ => absurd ((hoff 11 (by kernel_rfl)).symm.trans h0_) (by decide)⟩
                        refine steps_cons ?_ ?_
                        · rintro b a w' ⟨v153, adz_v153, v159, adz_v159, m6_, m11_, ha, Q_HO142, Q_HO145, Q_BK135, Q_HI0, Q_HK, Q_HB, Q_HI0_e1, Q_HO154, Q_HA_HO154, Q_HI0_e5, Q_HO160, Q_HA_HO160, Q_HI0_e10, Q_X6_, Q_X11_⟩ hb_ hon hoff
                          refine ⟨_, rfl, fun K hK => ?_⟩
                          have e27 : a.tmps[27]? = some (.pointer (some ⟨g, 0, none⟩)) := by rw [ha]; exact (putSel_off rfl).trans rfl
                          replace ha := Aside0.mk ha
                          have HO142 := Aside0.mk Q_HO142
                          have HO145 := Aside0.mk Q_HO145
                          have BK135 := Aside0.mk Q_BK135
                          have HK := Aside0.mk Q_HK
                          have HB := Aside0.mk Q_HB
                          have HI0 := Aside0.mk (Q_HI0_e1 (hon 1 (by kernel_rfl)) hb_)
                          refine goes_ Try.func30 (by kernel_rfl) rfl #[.pointer (some ⟨g, 0, none⟩), .int .i64 6] (by rfl) rfl rfl (by first | (simp only [List.map_toArray, List.map_cons, List.map_nil, Act.eval, Array.getD_eq_getD_getElem?, Option.getD_some, e27]; done) | (simp only [List.map_toArray, List.map_cons, List.map_nil, Act.eval, Array.getD_eq_getD_getElem?, Option.getD_some, e27]; rfl)) ?_
                          with_reducible refine (spec_l20Rd_pick.calls k g s0_0 t151 6 t155 t156 w0 _ ?side1 ?side2 A11.out).mono ?_
                          (case side1 => repeat (first | (with_reducible first | exact HI0.out | apply IsS50.alloc | apply IsS50.drewN | apply IsS50.drew | apply IsS50.set_1 | refine IsS50.far ?_ NB0_135.out _) | exact HI0.out))
                          (case side2 => repeat (first | (with_reducible first | exact HB.out | apply below_alloc | apply pw_below_drewN | apply below_drew1 | refine below_set ?_ (IsS50.ge HI0.out) | refine below_set ?_ GE135.out) | exact HB.out))
                          rintro e w75 ⟨rfl, hi, hb, hk⟩
                          refine ⟨_, rfl, ?_⟩
                          have n0_ := Aside0.mk (KeepBut.blk hk (g' := gb135) (o := .cells #[.int .i64 0, .int .i64 0] 24 (0, 0)) (by (with_reducible repeat (first | refine blk_drewN ?_ _ | refine blk_drew ?_ | refine blk_alloc ?_ _)); exact BK135.out) NB135_0.out (by simp))
                          have n1_ := Aside0.mk (Kd.R_mono (Kd.R_keep (IsS50.apart (show IsS50 w0 _ g s0_0 t151 from by repeat (first | (with_reducible first | exact HI0.out | apply IsS50.alloc | apply IsS50.drewN | apply IsS50.drew | apply IsS50.set_1 | refine IsS50.far ?_ NB0_135.out _) | exact HI0.out)) (by (with_reducible repeat (first | apply Kd.R_alloc | apply Kd.R_drewN | apply Kd.R_drew)); exact HO142.out) (by decide)) hk (fun _ h => h.2)) (fun _ h => h.1))
                          have n2_ := Aside0.mk (Kd.R_mono (Kd.R_keep (IsS50.apart (show IsS50 w0 _ g s0_0 t151 from by repeat (first | (with_reducible first | exact HI0.out | apply IsS50.alloc | apply IsS50.drewN | apply IsS50.drew | apply IsS50.set_1 | refine IsS50.far ?_ NB0_135.out _) | exact HI0.out)) (by (with_reducible repeat (first | apply Kd.R_alloc | apply Kd.R_drewN | apply Kd.R_drew)); exact HO145.out) (by decide)) hk (fun _ h => h.2)) (fun _ h => h.1))
                          have n3_ := Aside0.mk (KeepBut.trans (by repeat (first | (with_reducible first | exact HK.out | apply KeepBut.set_ | apply keep_drewN | apply keep_drew | apply keep_alloc | refine keep_far ?_ GW135.out _) | exact HK.out)) hk (.inl rfl))
                          have n4_ := Aside0.mk (hb)
                          have n5_ := Aside0.mk (hi)
                          have z_HO154 := fun (h0_ : b 3 = true) => (show Kd.R (Kd.int .i64) 3 w75 w.heap.size (fun k_ => some k_ ≠ (.slice (some ad149) y140.length co71 : Value).ownBlock ∧ some k_ ≠ (.slice (some ad148) y143.length co70 : Value).ownBlock) v153 y152 from by first | exact (Kd.R_mono (Kd.R_keep (IsS50.apart (show IsS50 w0 _ g s0_0 t151 from by repeat (first | (with_reducible first | exact HI0.out | apply IsS50.alloc | apply IsS50.drewN | apply IsS50.drew | apply IsS50.set_1 | refine IsS50.far ?_ NB0_135.out _) | exact HI0.out)) (by (with_reducible repeat (first | apply Kd.R_alloc | apply Kd.R_drewN | apply Kd.R_drew)); exact (Q_HO154 h0_)) (by decide)) hk (fun _ h => h.2)) (fun _ h => h.1)) | exact Kd.R_mono (Kd.R_mono (Kd.R_keep (IsS50.apart (show IsS50 w0 _ g s0_0 t151 from by repeat (first | (with_reducible first | exact HI0.out | apply IsS50.alloc | apply IsS50.drewN | apply IsS50.drew | apply IsS50.set_1 | refine IsS50.far ?_ NB0_135.out _) | exact HI0.out)) (by (with_reducible repeat (first | apply Kd.R_alloc | apply Kd.R_drewN | apply Kd.R_drew)); exact (Q_HO154 h0_)) (by decide)) hk (fun _ h => h.2)) (fun _ h => h.1)) (fun _ h_ => by first | trivial | exact h_ | exact h_.1))
                          clear BK135
                          clear HO142
                          clear HO145
                          clear HK
                          clear HB
                          clear HI0
                          have BK135 := n0_
                          have HO142 := n1_
                          have HO145 := n2_
                          have HK := n3_
                          have HB := n4_
                          have HI0 := n5_
                          clear n0_ n1_ n2_ n3_ n4_ n5_
                          (try clear hb)
                          (try clear hb2)
                          (try clear hk)
                          (try clear hi)
                          refine hK.out _ _ ⟨v153, adz_v153, v159, adz_v159, m6_, m11_, (by rw [ha.out]; exact putSel_upk 3 hb_ rfl rfl rfl), (by (with_reducible repeat (first | apply Kd.R_alloc | apply Kd.R_drewN | apply Kd.R_drew)); exact HO142.out), (by (with_reducible repeat (first | apply Kd.R_alloc | apply Kd.R_drewN | apply Kd.R_drew)); exact HO145.out), (by (with_reducible repeat (first | refine blk_drewN ?_ _ | refine blk_drew ?_ | refine blk_alloc ?_ _)); exact BK135.out), fun h0_ => absurd ((hon 1 (by kernel_rfl)).symm.trans h0_) (by decide), (by repeat (first | (with_reducible first | exact HK.out | apply KeepBut.set_ | apply keep_drewN | apply keep_drew | apply keep_alloc | refine keep_far ?_ GW135.out _) | exact HK.out)), (by repeat (first | (with_reducible first | exact HB.out | apply below_alloc | apply pw_below_drewN | apply below_drew1 | refine below_set ?_ (IsS50.ge HI0.out) | refine below_set ?_ GE135.out) | exact HB.out)), fun _ h1_ => absurd ((up_self b 5).symm.trans h1_) (by decide), z_HO154, Q_HA_HO154, fun _ _ => (by repeat (first | (with_reducible first | exact HI0.out | apply IsS50.alloc | apply IsS50.drewN | apply IsS50.drew | apply IsS50.set_1 | refine IsS50.far ?_ NB0_135.out _) | exact HI0.out)), fun h0_ => absurd ((hoff 8 (by kernel_rfl)).symm.trans h0_) (by decide), fun h0_ => absurd ((hoff 8 (by kernel_rfl)).symm.trans h0_) (by decide), fun h0_ => absurd ((hoff 10 (by kernel_rfl)).symm.trans h0_) (by decide), fun h0_ => absurd ((hoff 6 (by kernel_rfl)).symm.trans h0_) (by decide), fun h0_ => absurd ((hoff 11 (by kernel_rfl)).symm.trans h0_) (by decide)⟩
                        refine steps_cons ?_ ?_
                        · rintro b a w' ⟨v153, adz_v153, v159, adz_v159, m6_, m11_, ha, Q_HO142, Q_HO145, Q_BK135, Q_HI0, Q_HK, Q_HB, Q_HI0_e1, Q_HO154, Q_HA_HO154, Q_HI0_e5, Q_HO160, Q_HA_HO160, Q_HI0_e10, Q_X6_, Q_X11_⟩ hb_ hon hoff
                          refine ⟨_, rfl, fun K hK => ?_⟩
                          have e26 : a.tmps[26]? = some (v153) := by rw [ha]; exact putSel_on (e := (3, 26, v153)) 2 rfl rfl (hon 3 (by kernel_rfl)) rfl
                          have e28 : a.tmps[28]? = some (.int .i64 t155) := by rw [ha]; exact putSel_on (e := (5, 28, .int .i64 t155)) 3 rfl rfl (hon 5 (by kernel_rfl)) rfl
                          replace ha := Aside0.mk ha
                          have HO142 := Aside0.mk Q_HO142
                          have HO145 := Aside0.mk Q_HO145
                          have BK135 := Aside0.mk Q_BK135
                          have HK := Aside0.mk Q_HK
                          have HB := Aside0.mk Q_HB
                          have HO154 := Aside0.mk (Q_HO154 (hon 3 (by kernel_rfl)))
                          have HA_HO154 := Aside0.mk (Q_HA_HO154 (hon 3 (by kernel_rfl)))
                          obtain ⟨c_, hv_⟩ := HA_HO154.out
                          rw [hv_] at e26
                          refine value_ (w1 := w') (v := .pointer (some (adz_v153.add (t155).toNat))) (by rfl) rfl ?_ ?_
                          · go_simp
                            (try simp only [i64_w])
                            try rfl
                          refine hK.out _ _ ⟨v153, adz_v153, v159, adz_v159, (.pointer (some (adz_v153.add (t155).toNat))), m11_, (by rw [ha.out]; exact putSel_upk 4 hb_ rfl rfl rfl), Q_HO142, Q_HO145, Q_BK135, fun h0_ => absurd ((hon 1 (by kernel_rfl)).symm.trans h0_) (by decide), Q_HK, Q_HB, fun _ h1_ => absurd ((hon 5 (by kernel_rfl)).symm.trans h1_) (by decide), Q_HO154, Q_HA_HO154, Q_HI0_e5, fun h0_ => absurd ((hoff 8 (by kernel_rfl)).symm.trans h0_) (by decide), fun h0_ => absurd ((hoff 8 (by kernel_rfl)).symm.trans h0_) (by decide), Q_HI0_e10, fun _ => rfl, fun h0_ => absurd ((hoff 11 (by kernel_rfl)).symm.trans h0_) (by decide)⟩
                        refine steps_cons ?_ ?_
                        · rintro b a w' ⟨v153, adz_v153, v159, adz_v159, m6_, m11_, ha, Q_HO142, Q_HO145, Q_BK135, Q_HI0, Q_HK, Q_HB, Q_HI0_e1, Q_HO154, Q_HA_HO154, Q_HI0_e5, Q_HO160, Q_HA_HO160, Q_HI0_e10, Q_X6_, Q_X11_⟩ hb_ hon hoff
                          refine ⟨_, rfl, fun K hK => ?_⟩
                          have e29 : a.tmps[29]? = some (m6_) := by rw [ha]; exact putSel_on (e := (6, 29, m6_)) 4 rfl rfl (hon 6 (by kernel_rfl)) rfl
                          rw [Q_X6_ (hon 6 (by kernel_rfl))] at e29
                          replace ha := Aside0.mk ha
                          have HO142 := Aside0.mk Q_HO142
                          have HO145 := Aside0.mk Q_HO145
                          have BK135 := Aside0.mk Q_BK135
                          have HK := Aside0.mk Q_HK
                          have HB := Aside0.mk Q_HB
                          have HO154 := Aside0.mk (Q_HO154 (hon 3 (by kernel_rfl)))
                          have HA_HO154 := Aside0.mk (Q_HA_HO154 (hon 3 (by kernel_rfl)))
                          obtain ⟨c_, hv_⟩ := HA_HO154.out
                          have hF_ := HO154.out
                          rw [hv_] at hF_
                          obtain ⟨ad_, ea_, hx_⟩ := Kd.at_int (Kd.R_reads' hF_).2.2 t155 (of_eq_true pi157) (of_eq_true qi157)
                          cases ea_
                          refine value_ (w1 := w') (v := .int .i64 (rd y152 t155)) (by rfl) rfl ?_ ?_
                          · go_simp
                            (try simp only [i64_w])
                            try rfl
                          refine hK.out _ _ ⟨v153, adz_v153, v159, adz_v159, m6_, m11_, (by rw [ha.out]; exact putSel_upk 5 hb_ rfl rfl rfl), Q_HO142, Q_HO145, Q_BK135, fun h0_ => absurd ((hon 1 (by kernel_rfl)).symm.trans h0_) (by decide), Q_HK, Q_HB, fun _ h1_ => absurd ((hon 5 (by kernel_rfl)).symm.trans h1_) (by decide), Q_HO154, Q_HA_HO154, Q_HI0_e5, fun h0_ => absurd ((hoff 8 (by kernel_rfl)).symm.trans h0_) (by decide), fun h0_ => absurd ((hoff 8 (by kernel_rfl)).symm.trans h0_) (by decide), Q_HI0_e10, Q_X6_, fun h0_ => absurd ((hoff 11 (by kernel_rfl)).symm.trans h0_) (by decide)⟩
                        refine steps_cons ?_ ?_
                        · rintro b a w' ⟨v153, adz_v153, v159, adz_v159, m6_, m11_, ha, Q_HO142, Q_HO145, Q_BK135, Q_HI0, Q_HK, Q_HB, Q_HI0_e1, Q_HO154, Q_HA_HO154, Q_HI0_e5, Q_HO160, Q_HA_HO160, Q_HI0_e10, Q_X6_, Q_X11_⟩ hb_ hon hoff
                          refine ⟨_, rfl, fun K hK => ?_⟩
                          have e25 : a.tmps[25]? = some (.int .i64 (wrap64 (1 + t150))) := by rw [ha]; exact putSel_on (e := (2, 25, .int .i64 (wrap64 (1 + t150)))) 1 rfl rfl (hon 2 (by kernel_rfl)) rfl
                          have e30 : a.tmps[30]? = some (.int .i64 (rd y152 t155)) := by rw [ha]; exact putSel_on (e := (7, 30, .int .i64 (rd y152 t155))) 5 rfl rfl (hon 7 (by kernel_rfl)) rfl
                          replace ha := Aside0.mk ha
                          have HO142 := Aside0.mk Q_HO142
                          have HO145 := Aside0.mk Q_HO145
                          have BK135 := Aside0.mk Q_BK135
                          have HK := Aside0.mk Q_HK
                          have HB := Aside0.mk Q_HB
                          have HO154 := Aside0.mk (Q_HO154 (hon 3 (by kernel_rfl)))
                          have HA_HO154 := Aside0.mk (Q_HA_HO154 (hon 3 (by kernel_rfl)))
                          obtain ⟨co79, eo79⟩ := HA_HO154.out
                          clear HA_HO154
                          subst eo79
                          refine Kd.R_lit_step (Kd.int .i64) _ 3 ?hg (N := 31) ?hd (xs := ([1, wrap64 (1 + t150), rd y152 t155, 3] : List Int)) (inner := [.int .i64 1, .int .i64 (wrap64 (1 + t150)), .int .i64 (rd y152 t155), .int .i64 3]) (ok := fun _ => True) (okp := fun _ => True) ?hr ?hp (fun _ hk => hk) trivial (Below.refl _ _) (Nat.le_refl _) (by simp) ?_; (case hd => rfl); (case hg => rfl); (case hr => first | (go_simp; done) | (go_simp; rfl)); (case hp => exact (Reps.one (show Kd.M (Kd.int .i64) _ _ _ 1 [.int .i64 1] from rfl) (Reps.one (show Kd.M (Kd.int .i64) _ _ _ (wrap64 (1 + t150)) [.int .i64 (wrap64 (1 + t150))] from rfl) (Reps.one (show Kd.M (Kd.int .i64) _ _ _ (rd y152 t155) [.int .i64 (rd y152 t155)] from rfl) (Reps.one (show Kd.M (Kd.int .i64) _ _ _ 3 [.int .i64 3] from rfl) (Reps.none _ _))))))
                          intro v159 w80 ho81 hb hg_ hnew_
                          clear hg_ hnew_
                          (first | rw [← Ny158.out] at ho81 | (simp only [Int.reduceToNat] at ho81; rw [← Ny158.out] at ho81))
                          have n0_ := Aside0.mk (Kd.R_elder' (by (with_reducible repeat (first | apply Kd.R_alloc | apply Kd.R_drewN | apply Kd.R_drew)); exact HO142.out) (Kd.R_base ho81) hb)
                          have n1_ := Aside0.mk (Kd.R_elder' (by (with_reducible repeat (first | apply Kd.R_alloc | apply Kd.R_drewN | apply Kd.R_drew)); exact HO145.out) (Kd.R_base ho81) hb)
                          have n2_ := Aside0.mk (Kd.R_elder' (by (with_reducible repeat (first | apply Kd.R_alloc | apply Kd.R_drewN | apply Kd.R_drew)); exact HO154.out) (Kd.R_base ho81) hb)
                          have n3_ := Aside0.mk (Kd.R_lower (Kd.R_new' (Kd.R_new' (Kd.R_new' ho81 (Kd.R_lt (by (with_reducible repeat (first | apply Kd.R_alloc | apply Kd.R_drewN | apply Kd.R_drew)); exact HO142.out))) (Kd.R_lt (by (with_reducible repeat (first | apply Kd.R_alloc | apply Kd.R_drewN | apply Kd.R_drew)); exact HO145.out))) (Kd.R_lt (by (with_reducible repeat (first | apply Kd.R_alloc | apply Kd.R_drewN | apply Kd.R_drew)); exact HO154.out))) (keep_size (w := w) (g := g) (row := none) (by repeat (first | (with_reducible first | exact HK.out | apply KeepBut.set_ | apply keep_drewN | apply keep_drew | apply keep_alloc | refine keep_far ?_ GW135.out _) | exact HK.out))))
                          have n5_ := Aside0.mk (blk_below (g := gb135) (o := .cells #[.int .i64 0, .int .i64 0] 24 (0, 0)) (by (with_reducible repeat (first | refine blk_drewN ?_ _ | refine blk_drew ?_ | refine blk_alloc ?_ _)); exact BK135.out) hb)
                          have n6_ := Aside0.mk (KeepBut.trans (by repeat (first | (with_reducible first | exact HK.out | apply KeepBut.set_ | apply keep_drewN | apply keep_drew | apply keep_alloc | refine keep_far ?_ GW135.out _) | exact HK.out)) (KeepBut.of_below hb g none) (.inl rfl))
                          have n7_ := Aside0.mk (below_step (by repeat (first | (with_reducible first | exact HB.out | apply below_alloc | apply pw_below_drewN | apply below_drew1 | refine below_set ?_ GE135.out) | exact HB.out)) hb)
                          have z_HI0_e5 := fun (h0_ : b 5 = true) (h1_ : b 10 = false) => (show IsS50 w0 w80 g s0_0 t156 from by first | exact (IsS50.below (by repeat (first | (with_reducible first | exact (Q_HI0_e5 h0_ h1_) | apply IsS50.alloc | apply IsS50.drewN | apply IsS50.drew | apply IsS50.set_1 | refine IsS50.far ?_ NB0_135.out _) | exact (Q_HI0_e5 h0_ h1_))) hb))
                          have z_HI0_e10 := fun (h0_ : b 10 = true) => (show IsS50 w0 w80 g s0_0 t162 from by first | exact (IsS50.below (by repeat (first | (with_reducible first | exact (Q_HI0_e10 h0_) | apply IsS50.alloc | apply IsS50.drewN | apply IsS50.drew | apply IsS50.set_1 | refine IsS50.far ?_ NB0_135.out _) | exact (Q_HI0_e10 h0_))) hb))
                          clear HO142
                          clear HO145
                          clear HO154
                          clear BK135
                          clear HK
                          clear HB
                          have HO142 := n0_
                          have HO145 := n1_
                          have HO154 := n2_
                          have HO160 := n3_
                          have BK135 := n5_
                          have HK := n6_
                          have HB := n7_
                          clear n0_ n1_ n2_ n3_ n5_ n6_ n7_
                          clear hb ho81
                          obtain ⟨Ao82, co82, eo82⟩ := Kd.R_slice HO160.out
                          subst eo82
                          obtain ⟨ado82, fo82, _⟩ := Kd.at_int (Kd.R_reads' HO160.out).2.2 0 (by decide) (by rw [Ny158.out]; simp)
                          cases fo82
                          refine hK.out _ _ ⟨.slice (some adz_v153) y152.length co79, adz_v153, .slice (some ado82) y158.length co82, ado82, m6_, m11_, (by rw [ha.out]; exact putSel_upk 6 hb_ rfl rfl rfl), (by (with_reducible repeat (first | apply Kd.R_alloc | apply Kd.R_drewN | apply Kd.R_drew)); exact Kd.R_mono HO142.out (fun _ hk => by first | grind | (simp only [true_and, and_assoc] at hk ⊢; grind))), (by (with_reducible repeat (first | apply Kd.R_alloc | apply Kd.R_drewN | apply Kd.R_drew)); exact Kd.R_mono HO145.out (fun _ hk => by first | grind | (simp only [true_and, and_assoc] at hk ⊢; grind))), (by (with_reducible repeat (first | refine blk_drewN ?_ _ | refine blk_drew ?_ | refine blk_alloc ?_ _)); exact BK135.out), fun h0_ => absurd ((hon 1 (by kernel_rfl)).symm.trans h0_) (by decide), (by repeat (first | (with_reducible first | exact HK.out | apply KeepBut.set_ | apply keep_drewN | apply keep_drew | apply keep_alloc | refine keep_far ?_ GW135.out _) | exact HK.out)), (by repeat (first | (with_reducible first | exact HB.out | apply below_alloc | apply pw_below_drewN | apply below_drew1 | refine below_set ?_ GE135.out) | exact HB.out)), fun _ h1_ => absurd ((hon 5 (by kernel_rfl)).symm.trans h1_) (by decide), fun _ => (by (with_reducible repeat (first | apply Kd.R_alloc | apply Kd.R_drewN | apply Kd.R_drew)); exact Kd.R_mono HO154.out (fun _ hk => by first | grind | (simp only [true_and, and_assoc] at hk ⊢; grind))), fun _ => ⟨_, rfl⟩, z_HI0_e5, fun _ => (by (with_reducible repeat (first | apply Kd.R_alloc | apply Kd.R_drewN | apply Kd.R_drew)); exact Kd.R_mono HO160.out (fun _ hk => by first | grind | (simp only [true_and, and_assoc] at hk ⊢; grind))), fun _ => ⟨_, rfl⟩, z_HI0_e10, Q_X6_, fun h0_ => absurd ((hoff 11 (by kernel_rfl)).symm.trans h0_) (by decide)⟩
                        refine steps_cons ?_ ?_
                        · rintro b a w' ⟨v153, adz_v153, v159, adz_v159, m6_, m11_, ha, Q_HO142, Q_HO145, Q_BK135, Q_HI0, Q_HK, Q_HB, Q_HI0_e1, Q_HO154, Q_HA_HO154, Q_HI0_e5, Q_HO160, Q_HA_HO160, Q_HI0_e10, Q_X6_, Q_X11_⟩ hb_ hon hoff
                          refine ⟨_, rfl, fun K hK => ?_⟩
                          have e32 : a.tmps[32]? = some (.pointer (some ⟨g, 0, none⟩)) := by rw [ha]; exact (putSel_off rfl).trans rfl
                          replace ha := Aside0.mk ha
                          have HO142 := Aside0.mk Q_HO142
                          have HO145 := Aside0.mk Q_HO145
                          have BK135 := Aside0.mk Q_BK135
                          have HK := Aside0.mk Q_HK
                          have HB := Aside0.mk Q_HB
                          have HI0 := Aside0.mk (Q_HI0_e5 (hon 5 (by kernel_rfl)) hb_)
                          refine goes_ Try.func30 (by kernel_rfl) rfl #[.pointer (some ⟨g, 0, none⟩), .int .i64 4] (by rfl) rfl rfl (by first | (simp only [List.map_toArray, List.map_cons, List.map_nil, Act.eval, Array.getD_eq_getD_getElem?, Option.getD_some, e32]; done) | (simp only [List.map_toArray, List.map_cons, List.map_nil, Act.eval, Array.getD_eq_getD_getElem?, Option.getD_some, e32]; rfl)) ?_
                          with_reducible refine (spec_l20Rd_pick.calls k g s0_0 t156 4 t161 t162 w0 _ ?side1 ?side2 A14.out).mono ?_
                          (case side1 => repeat (first | (with_reducible first | exact HI0.out | apply IsS50.alloc | apply IsS50.drewN | apply IsS50.drew | apply IsS50.set_1 | refine IsS50.far ?_ NB0_135.out _) | exact HI0.out))
                          (case side2 => repeat (first | (with_reducible first | exact HB.out | apply below_alloc | apply pw_below_drewN | apply below_drew1 | refine below_set ?_ (IsS50.ge HI0.out) | refine below_set ?_ GE135.out) | exact HB.out))
                          rintro e w76 ⟨rfl, hi, hb, hk⟩
                          refine ⟨_, rfl, ?_⟩
                          have n0_ := Aside0.mk (KeepBut.blk hk (g' := gb135) (o := .cells #[.int .i64 0, .int .i64 0] 24 (0, 0)) (by (with_reducible repeat (first | refine blk_drewN ?_ _ | refine blk_drew ?_ | refine blk_alloc ?_ _)); exact BK135.out) NB135_0.out (by simp))
                          have n1_ := Aside0.mk (Kd.R_mono (Kd.R_keep (IsS50.apart (show IsS50 w0 _ g s0_0 t156 from by repeat (first | (with_reducible first | exact HI0.out | apply IsS50.alloc | apply IsS50.drewN | apply IsS50.drew | apply IsS50.set_1 | refine IsS50.far ?_ NB0_135.out _) | exact HI0.out)) (by (with_reducible repeat (first | apply Kd.R_alloc | apply Kd.R_drewN | apply Kd.R_drew)); exact HO142.out) (by decide)) hk (fun _ h => h.2)) (fun _ h => h.1))
                          have n2_ := Aside0.mk (Kd.R_mono (Kd.R_keep (IsS50.apart (show IsS50 w0 _ g s0_0 t156 from by repeat (first | (with_reducible first | exact HI0.out | apply IsS50.alloc | apply IsS50.drewN | apply IsS50.drew | apply IsS50.set_1 | refine IsS50.far ?_ NB0_135.out _) | exact HI0.out)) (by (with_reducible repeat (first | apply Kd.R_alloc | apply Kd.R_drewN | apply Kd.R_drew)); exact HO145.out) (by decide)) hk (fun _ h => h.2)) (fun _ h => h.1))
                          have n3_ := Aside0.mk (KeepBut.trans (by repeat (first | (with_reducible first | exact HK.out | apply KeepBut.set_ | apply keep_drewN | apply keep_drew | apply keep_alloc | refine keep_far ?_ GW135.out _) | exact HK.out)) hk (.inl rfl))
                          have n4_ := Aside0.mk (hb)
                          have n5_ := Aside0.mk (hi)
                          have z_HO154 := fun (h0_ : b 3 = true) => (show Kd.R (Kd.int .i64) 3 w76 w.heap.size (fun k_ => some k_ ≠ (.slice (some ad149) y140.length co71 : Value).ownBlock ∧ some k_ ≠ (.slice (some ad148) y143.length co70 : Value).ownBlock) v153 y152 from by first | exact (Kd.R_mono (Kd.R_keep (IsS50.apart (show IsS50 w0 _ g s0_0 t156 from by repeat (first | (with_reducible first | exact HI0.out | apply IsS50.alloc | apply IsS50.drewN | apply IsS50.drew | apply IsS50.set_1 | refine IsS50.far ?_ NB0_135.out _) | exact HI0.out)) (by (with_reducible repeat (first | apply Kd.R_alloc | apply Kd.R_drewN | apply Kd.R_drew)); exact (Q_HO154 h0_)) (by decide)) hk (fun _ h => h.2)) (fun _ h => h.1)) | exact Kd.R_mono (Kd.R_mono (Kd.R_keep (IsS50.apart (show IsS50 w0 _ g s0_0 t156 from by repeat (first | (with_reducible first | exact HI0.out | apply IsS50.alloc | apply IsS50.drewN | apply IsS50.drew | apply IsS50.set_1 | refine IsS50.far ?_ NB0_135.out _) | exact HI0.out)) (by (with_reducible repeat (first | apply Kd.R_alloc | apply Kd.R_drewN | apply Kd.R_drew)); exact (Q_HO154 h0_)) (by decide)) hk (fun _ h => h.2)) (fun _ h => h.1)) (fun _ h_ => by first | trivial | exact h_ | exact h_.1))
                          have z_HO160 := fun (h0_ : b 8 = true) => (show Kd.R (Kd.int .i64) 3 w76 w.heap.size (fun k_ => some k_ ≠ (.slice (some ad149) y140.length co71 : Value).ownBlock ∧ some k_ ≠ (.slice (some ad148) y143.length co70 : Value).ownBlock) v159 y158 from by first | exact (Kd.R_mono (Kd.R_keep (IsS50.apart (show IsS50 w0 _ g s0_0 t156 from by repeat (first | (with_reducible first | exact HI0.out | apply IsS50.alloc | apply IsS50.drewN | apply IsS50.drew | apply IsS50.set_1 | refine IsS50.far ?_ NB0_135.out _) | exact HI0.out)) (by (with_reducible repeat (first | apply Kd.R_alloc | apply Kd.R_drewN | apply Kd.R_drew)); exact (Q_HO160 h0_)) (by decide)) hk (fun _ h => h.2)) (fun _ h => h.1)) | exact Kd.R_mono (Kd.R_mono (Kd.R_keep (IsS50.apart (show IsS50 w0 _ g s0_0 t156 from by repeat (first | (with_reducible first | exact HI0.out | apply IsS50.alloc | apply IsS50.drewN | apply IsS50.drew | apply IsS50.set_1 | refine IsS50.far ?_ NB0_135.out _) | exact HI0.out)) (by (with_reducible repeat (first | apply Kd.R_alloc | apply Kd.R_drewN | apply Kd.R_drew)); exact (Q_HO160 h0_)) (by decide)) hk (fun _ h => h.2)) (fun _ h => h.1)) (fun _ h_ => by first | trivial | exact h_ | exact h_.1))
                          clear BK135
                          clear HO142
                          clear HO145
                          clear HK
                          clear HB
                          clear HI0
                          have BK135 := n0_
                          have HO142 := n1_
                          have HO145 := n2_
                          have HK := n3_
                          have HB := n4_
                          have HI0 := n5_
                          clear n0_ n1_ n2_ n3_ n4_ n5_
                          (try clear hb)
                          (try clear hb2)
                          (try clear hk)
                          (try clear hi)
                          refine hK.out _ _ ⟨v153, adz_v153, v159, adz_v159, m6_, m11_, (by rw [ha.out]; exact putSel_upk 7 hb_ rfl rfl rfl), (by (with_reducible repeat (first | apply Kd.R_alloc | apply Kd.R_drewN | apply Kd.R_drew)); exact HO142.out), (by (with_reducible repeat (first | apply Kd.R_alloc | apply Kd.R_drewN | apply Kd.R_drew)); exact HO145.out), (by (with_reducible repeat (first | refine blk_drewN ?_ _ | refine blk_drew ?_ | refine blk_alloc ?_ _)); exact BK135.out), fun h0_ => absurd ((hon 1 (by kernel_rfl)).symm.trans h0_) (by decide), (by repeat (first | (with_reducible first | exact HK.out | apply KeepBut.set_ | apply keep_drewN | apply keep_drew | apply keep_alloc | refine keep_far ?_ GW135.out _) | exact HK.out)), (by repeat (first | (with_reducible first | exact HB.out | apply below_alloc | apply pw_below_drewN | apply below_drew1 | refine below_set ?_ (IsS50.ge HI0.out) | refine below_set ?_ GE135.out) | exact HB.out)), fun _ h1_ => absurd ((hon 5 (by kernel_rfl)).symm.trans h1_) (by decide), z_HO154, Q_HA_HO154, fun _ h1_ => absurd ((up_self b 10).symm.trans h1_) (by decide), z_HO160, Q_HA_HO160, fun _ => (by repeat (first | (with_reducible first | exact HI0.out | apply IsS50.alloc | apply IsS50.drewN | apply IsS50.drew | apply IsS50.set_1 | refine IsS50.far ?_ NB0_135.out _) | exact HI0.out)), Q_X6_, fun h0_ => absurd ((hoff 11 (by kernel_rfl)).symm.trans h0_) (by decide)⟩
                        refine steps_cons ?_ ?_
                        · rintro b a w' ⟨v153, adz_v153, v159, adz_v159, m6_, m11_, ha, Q_HO142, Q_HO145, Q_BK135, Q_HI0, Q_HK, Q_HB, Q_HI0_e1, Q_HO154, Q_HA_HO154, Q_HI0_e5, Q_HO160, Q_HA_HO160, Q_HI0_e10, Q_X6_, Q_X11_⟩ hb_ hon hoff
                          refine ⟨_, rfl, fun K hK => ?_⟩
                          have e31 : a.tmps[31]? = some (v159) := by rw [ha]; exact putSel_on (e := (8, 31, v159)) 6 rfl rfl (hon 8 (by kernel_rfl)) rfl
                          have e33 : a.tmps[33]? = some (.int .i64 t161) := by rw [ha]; exact putSel_on (e := (10, 33, .int .i64 t161)) 7 rfl rfl (hon 10 (by kernel_rfl)) rfl
                          replace ha := Aside0.mk ha
                          have HO142 := Aside0.mk Q_HO142
                          have HO145 := Aside0.mk Q_HO145
                          have BK135 := Aside0.mk Q_BK135
                          have HK := Aside0.mk Q_HK
                          have HB := Aside0.mk Q_HB
                          have HO154 := Aside0.mk (Q_HO154 (hon 3 (by kernel_rfl)))
                          have HA_HO154 := Aside0.mk (Q_HA_HO154 (hon 3 (by kernel_rfl)))
                          have HO160 := Aside0.mk (Q_HO160 (hon 8 (by kernel_rfl)))
                          have HA_HO160 := Aside0.mk (Q_HA_HO160 (hon 8 (by kernel_rfl)))
                          have HI0 := Aside0.mk (Q_HI0_e10 (hon 10 (by kernel_rfl)))
                          obtain ⟨c_, hv_⟩ := HA_HO160.out
                          rw [hv_] at e31
                          refine value_ (w1 := w') (v := .pointer (some (adz_v159.add (t161).toNat))) (by rfl) rfl ?_ ?_
                          · go_simp
                            (try simp only [i64_w])
                            try rfl
                          refine hK.out _ _ ⟨v153, adz_v153, v159, adz_v159, m6_, (.pointer (some (adz_v159.add (t161).toNat))), (by rw [ha.out]; exact putSel_upk 8 hb_ rfl rfl rfl), Q_HO142, Q_HO145, Q_BK135, fun h0_ => absurd ((hon 1 (by kernel_rfl)).symm.trans h0_) (by decide), Q_HK, Q_HB, fun _ h1_ => absurd ((hon 5 (by kernel_rfl)).symm.trans h1_) (by decide), Q_HO154, Q_HA_HO154, fun _ h1_ => absurd ((hon 10 (by kernel_rfl)).symm.trans h1_) (by decide), Q_HO160, Q_HA_HO160, Q_HI0_e10, Q_X6_, fun _ => rfl⟩
                        refine steps_cons ?_ ?_
                        · rintro b a w' ⟨v153, adz_v153, v159, adz_v159, m6_, m11_, ha, Q_HO142, Q_HO145, Q_BK135, Q_HI0, Q_HK, Q_HB, Q_HI0_e1, Q_HO154, Q_HA_HO154, Q_HI0_e5, Q_HO160, Q_HA_HO160, Q_HI0_e10, Q_X6_, Q_X11_⟩ hb_ hon hoff
                          refine ⟨_, rfl, fun K hK => ?_⟩
                          have e34 : a.tmps[34]? = some (m11_) := by rw [ha]; exact putSel_on (e := (11, 34, m11_)) 8 rfl rfl (hon 11 (by kernel_rfl)) rfl
                          rw [Q_X11_ (hon 11 (by kernel_rfl))] at e34
                          replace ha := Aside0.mk ha
                          have HO142 := Aside0.mk Q_HO142
                          have HO145 := Aside0.mk Q_HO145
                          have BK135 := Aside0.mk Q_BK135
                          have HK := Aside0.mk Q_HK
                          have HB := Aside0.mk Q_HB
                          have HO154 := Aside0.mk (Q_HO154 (hon 3 (by kernel_rfl)))
                          have HA_HO154 := Aside0.mk (Q_HA_HO154 (hon 3 (by kernel_rfl)))
                          have HO160 := Aside0.mk (Q_HO160 (hon 8 (by kernel_rfl)))
                          have HA_HO160 := Aside0.mk (Q_HA_HO160 (hon 8 (by kernel_rfl)))
                          have HI0 := Aside0.mk (Q_HI0_e10 (hon 10 (by kernel_rfl)))
                          obtain ⟨c_, hv_⟩ := HA_HO160.out
                          have hF_ := HO160.out
                          rw [hv_] at hF_
                          obtain ⟨ad_, ea_, hx_⟩ := Kd.at_int (Kd.R_reads' hF_).2.2 t161 (of_eq_true pi163) (of_eq_true qi163)
                          cases ea_
                          refine value_ (w1 := w') (v := .int .i64 (rd y158 t161)) (by rfl) rfl ?_ ?_
                          · go_simp
                            (try simp only [i64_w])
                            try rfl
                          refine hK.out _ _ ⟨v153, adz_v153, v159, adz_v159, m6_, m11_, (by rw [ha.out]; exact putSel_upk 9 hb_ rfl rfl rfl), Q_HO142, Q_HO145, Q_BK135, fun h0_ => absurd ((hon 1 (by kernel_rfl)).symm.trans h0_) (by decide), Q_HK, Q_HB, fun _ h1_ => absurd ((hon 5 (by kernel_rfl)).symm.trans h1_) (by decide), Q_HO154, Q_HA_HO154, fun _ h1_ => absurd ((hon 10 (by kernel_rfl)).symm.trans h1_) (by decide), Q_HO160, Q_HA_HO160, Q_HI0_e10, Q_X6_, Q_X11_⟩
                        refine steps_cons ?_ ?_
                        · rintro b a w' ⟨v153, adz_v153, v159, adz_v159, m6_, m11_, ha, Q_HO142, Q_HO145, Q_BK135, Q_HI0, Q_HK, Q_HB, Q_HI0_e1, Q_HO154, Q_HA_HO154, Q_HI0_e5, Q_HO160, Q_HA_HO160, Q_HI0_e10, Q_X6_, Q_X11_⟩ hb_ hon hoff
                          refine ⟨_, rfl, fun K hK => ?_⟩
                          have e35 : a.tmps[35]? = some (.int .i64 (rd y158 t161)) := by rw [ha]; exact putSel_on (e := (12, 35, .int .i64 (rd y158 t161))) 9 rfl rfl (hon 12 (by kernel_rfl)) rfl
                          replace ha := Aside0.mk ha
                          have HO142 := Aside0.mk Q_HO142
                          have HO145 := Aside0.mk Q_HO145
                          have BK135 := Aside0.mk Q_BK135
                          have HK := Aside0.mk Q_HK
                          have HB := Aside0.mk Q_HB
                          have HO154 := Aside0.mk (Q_HO154 (hon 3 (by kernel_rfl)))
                          have HA_HO154 := Aside0.mk (Q_HA_HO154 (hon 3 (by kernel_rfl)))
                          have HO160 := Aside0.mk (Q_HO160 (hon 8 (by kernel_rfl)))
                          have HA_HO160 := Aside0.mk (Q_HA_HO160 (hon 8 (by kernel_rfl)))
                          have HI0 := Aside0.mk (Q_HI0_e10 (hon 10 (by kernel_rfl)))
                          refine value_ (w1 := w') (v := .int .i64 (rd y158 t161)) (by rfl) rfl ?_ ?_
                          · go_simp
                            (try simp only [i64_w])
                            try rfl
                          refine hK.out _ _ ⟨v153, adz_v153, v159, adz_v159, m6_, m11_, (by rw [ha.out]; exact putSel_upk 10 hb_ rfl rfl rfl), Q_HO142, Q_HO145, Q_BK135, fun h0_ => absurd ((hon 1 (by kernel_rfl)).symm.trans h0_) (by decide), Q_HK, Q_HB, fun _ h1_ => absurd ((hon 5 (by kernel_rfl)).symm.trans h1_) (by decide), Q_HO154, Q_HA_HO154, fun _ h1_ => absurd ((hon 10 (by kernel_rfl)).symm.trans h1_) (by decide), Q_HO160, Q_HA_HO160, Q_HI0_e10, Q_X6_, Q_X11_⟩
                        exact steps_nil
                      rintro b a w82 hall ⟨v153, adz_v153, v159, adz_v159, m6_, m11_, ha, Q_HO142, Q_HO145, Q_BK135, Q_HI0, Q_HK, Q_HB, Q_HI0_e1, Q_HO154, Q_HA_HO154, Q_HI0_e5, Q_HO160, Q_HA_HO160, Q_HI0_e10, Q_X6_, Q_X11_⟩
                      clear BK135 HB HI0 HK HO142 HO145
                      have hb1_ := hall 1 (by kernel_rfl)
                      have hb2_ := hall 2 (by kernel_rfl)
                      have hb3_ := hall 3 (by kernel_rfl)
                      have hb5_ := hall 5 (by kernel_rfl)
                      have hb6_ := hall 6 (by kernel_rfl)
                      have hb7_ := hall 7 (by kernel_rfl)
                      have hb8_ := hall 8 (by kernel_rfl)
                      have hb10_ := hall 10 (by kernel_rfl)
                      have hb11_ := hall 11 (by kernel_rfl)
                      have hb12_ := hall 12 (by kernel_rfl)
                      have hb13_ := hall 13 (by kernel_rfl)
                      subst ha
                      obtain rfl := Q_X6_ hb6_
                      obtain rfl := Q_X11_ hb11_
                      simp only [putSel, hb1_, hb2_, hb3_, hb5_, hb6_, hb7_, hb8_, hb10_, hb11_, hb12_, hb13_, if_true, Act.put, List.setIfInBounds_toArray, List.set_cons_zero, List.set_cons_succ]
                      have HO142 := Aside0.mk Q_HO142
                      clear Q_HO142
                      have HO145 := Aside0.mk Q_HO145
                      clear Q_HO145
                      have BK135 := Aside0.mk Q_BK135
                      clear Q_BK135
                      clear Q_HI0
                      have HK := Aside0.mk Q_HK
                      clear Q_HK
                      have HB := Aside0.mk Q_HB
                      clear Q_HB
                      clear Q_HI0_e1
                      have HO154 := Aside0.mk (Q_HO154 hb3_)
                      clear Q_HO154
                      have HA_HO154 := Aside0.mk (Q_HA_HO154 hb3_)
                      clear Q_HA_HO154
                      clear Q_HI0_e5
                      have HO160 := Aside0.mk (Q_HO160 hb8_)
                      clear Q_HO160
                      have HA_HO160 := Aside0.mk (Q_HA_HO160 hb8_)
                      clear Q_HA_HO160
                      have HI0 := Aside0.mk (Q_HI0_e10 hb10_)
                      clear Q_HI0_e10
                      clear hall hb1_ hb2_ hb3_ hb5_ hb6_ hb7_ hb8_ hb10_ hb11_ hb12_ hb13_
                      obtain ⟨co83, eo83⟩ := HA_HO154.out
                      clear HA_HO154
                      subst eo83
                      obtain ⟨co84, eo84⟩ := HA_HO160.out
                      clear HA_HO160
                      subst eo84
                      try go_wp2_with (first | ((with_reducible refine gate_callee (f := 40) rfl ?_); refine goesL_ (some 38) rfl rfl Try.func40 (by kernel_rfl) rfl #[.int .i64 (rd y140 (rd y143 t146)), .int .i64 (rd y158 t161)] rfl (by (try simp only [List.map_toArray, List.map_cons, List.map_nil]); first | done | rfl | (simp only [List.length_drop, List.length_take]; rfl)) ?_; (with_reducible refine (spec_l2Gcd.calls k (rd y140 (rd y143 t146)) (rd y158 t161) t164 _ A17.out).mono ?_); rintro e w85 ⟨rfl, hb⟩; refine ⟨_, rfl, ?_⟩; have n0_ := Aside0.mk (Kd.R_below (by (with_reducible repeat (first | apply Kd.R_alloc | apply Kd.R_drewN | apply Kd.R_drew)); exact HO142.out) hb); have n1_ := Aside0.mk (Kd.R_below (by (with_reducible repeat (first | apply Kd.R_alloc | apply Kd.R_drewN | apply Kd.R_drew)); exact HO145.out) hb); have n2_ := Aside0.mk (Kd.R_below (by (with_reducible repeat (first | apply Kd.R_alloc | apply Kd.R_drewN | apply Kd.R_drew)); exact HO154.out) hb); have n3_ := Aside0.mk (Kd.R_below (by (with_reducible repeat (first | apply Kd.R_alloc | apply Kd.R_drewN | apply Kd.R_drew)); exact HO160.out) hb); have n4_ := Aside0.mk (IsS50.below (by repeat (first | (with_reducible first | exact HI0.out | apply IsS50.alloc | apply IsS50.drewN | apply IsS50.drew | apply IsS50.set_1 | refine IsS50.far ?_ NB0_135.out _) | exact HI0.out)) hb); have n5_ := Aside0.mk (blk_below (g := gb135) (o := .cells #[.int .i64 0, .int .i64 0] 24 (0, 0)) (by (with_reducible repeat (first | refine blk_drewN ?_ _ | refine blk_drew ?_ | refine blk_alloc ?_ _)); exact BK135.out) hb); have n6_ := Aside0.mk (KeepBut.trans (by repeat (first | (with_reducible first | exact HK.out | apply KeepBut.set_ | apply keep_drewN | apply keep_drew | apply keep_alloc | refine keep_far ?_ GW135.out _) | exact HK.out)) (KeepBut.of_below hb g none) (.inl rfl)); have n7_ := Aside0.mk (below_step (by repeat (first | (with_reducible first | exact HB.out | apply below_alloc | apply pw_below_drewN | apply below_drew1 | refine below_set ?_ (IsS50.ge HI0.out) | refine below_set ?_ GE135.out) | exact HB.out)) hb); clear HO142; clear HO145; clear HO154; clear HO160; clear HI0; clear BK135; clear HK; clear HB; have HO142 := n0_; have HO145 := n1_; have HO154 := n2_; have HO160 := n3_; have HI0 := n4_; have BK135 := n5_; have HK := n6_; have HB := n7_; clear n0_ n1_ n2_ n3_ n4_ n5_ n6_ n7_; (try clear hb); (try clear hb2); (try clear hk); (try clear hi)))
                      have n0_ := Aside0.mk (Kd.R_drew HO142.out)
                      have n1_ := Aside0.mk (Kd.R_drew HO145.out)
                      have n2_ := Aside0.mk (Kd.R_drew HO154.out)
                      have n3_ := Aside0.mk (Kd.R_drew HO160.out)
                      have n4_ := Aside0.mk (blk_drew BK135.out)
                      have n5_ := Aside0.mk (IsS50.drew HI0.out)
                      have n6_ := Aside0.mk (keep_drew HK.out)
                      have n7_ := Aside0.mk (below_drew1 HB.out)
                      clear HO142
                      clear HO145
                      clear HO154
                      clear HO160
                      clear BK135
                      clear HI0
                      clear HK
                      clear HB
                      have HO142 := n0_
                      have HO145 := n1_
                      have HO154 := n2_
                      have HO160 := n3_
                      have BK135 := n4_
                      have HI0 := n5_
                      have HK := n6_
                      have HB := n7_
                      clear n0_ n1_ n2_ n3_ n4_ n5_ n6_ n7_
                      refine start_ (n := 9) (S := fun w' => True) (ds := []) #[false, false, false, false, false, false, false, false, false] (by kernel_rfl) rfl rfl trivial (fun hHeld => ?_); refine with_tabW spec_l20Fraction.tab4 spec_l20Fraction.bits4 (fun HT_ HW_ => ?_)
                      generalize w85.drew = w86 at HO142 HO145 HO154 HO160 BK135 HI0 HK HB hHeld ⊢
                      refine pure_ (i := 0) (N := some 39) (v := ?_) (a' := ?_) #[true, false, false, false, false, false, false, false, false] rfl rfl (any_of HT_.out (by kernel_rfl)) (fun _ _ _ h => h) (Or.inl ⟨by rfl, ?_⟩) ?_ ?_
                      rotate_left
                      · intro w'
                        go_simp
                        with_reducible rfl
                      rotate_left
                      · simp only [Act.put, List.setIfInBounds_toArray, List.set_cons_zero, List.set_cons_succ, i64_w, i32_w]
                        rfl
                      refine pure_ (i := 1) (N := some 40) (v := ?_) (a' := ?_) #[true, true, false, false, false, false, false, false, false] rfl rfl (any_of HT_.out (by kernel_rfl)) (fun _ _ _ h => h) (Or.inl ⟨by rfl, ?_⟩) ?_ ?_
                      rotate_left
                      · intro w'
                        go_simp
                        with_reducible rfl
                      rotate_left
                      · simp only [Act.put, List.setIfInBounds_toArray, List.set_cons_zero, List.set_cons_succ, i64_w, i32_w]
                        rfl
                      refine pure_ (i := 2) (N := some 41) (v := ?_) (a' := ?_) #[true, true, true, false, false, false, false, false, false] rfl rfl (any_of HT_.out (by kernel_rfl)) (fun _ _ _ h => h) (Or.inl ⟨by rfl, ?_⟩) ?_ ?_
                      rotate_left
                      · intro w'
                        go_simp
                        with_reducible rfl
                      rotate_left
                      · simp only [Act.put, List.setIfInBounds_toArray, List.set_cons_zero, List.set_cons_succ, i64_w, i32_w]
                        rfl
                      refine pure_ (i := 3) (N := some 42) (v := ?_) (a' := ?_) #[true, true, true, true, false, false, false, false, false] rfl rfl (any_of HT_.out (by kernel_rfl)) (fun _ _ _ h => h) (Or.inl ⟨by rfl, ?_⟩) ?_ ?_
                      rotate_left
                      · intro w'
                        go_simp
                        with_reducible rfl
                      rotate_left
                      · simp only [Act.put, List.setIfInBounds_toArray, List.set_cons_zero, List.set_cons_succ, i64_w, i32_w]
                        rfl
                      refine pure_ (i := 4) (N := some 43) (v := ?_) (a' := ?_) #[true, true, true, true, true, false, false, false, false] rfl rfl (any_of HT_.out (by kernel_rfl)) (fun _ _ _ h => h) (Or.inl ⟨by rfl, ?_⟩) ?_ ?_
                      rotate_left
                      · intro w'
                        go_simp
                        with_reducible rfl
                      rotate_left
                      · simp only [Act.put, List.setIfInBounds_toArray, List.set_cons_zero, List.set_cons_succ, i64_w, i32_w]
                        rfl
                      refine pure_ (i := 5) (N := some 44) (v := ?_) (a' := ?_) #[true, true, true, true, true, true, false, false, false] rfl rfl (any_of HT_.out (by kernel_rfl)) (fun _ _ _ h => h) (Or.inl ⟨by rfl, ?_⟩) ?_ ?_
                      rotate_left
                      · intro w'
                        go_simp
                        with_reducible rfl
                      rotate_left
                      · simp only [Act.put, List.setIfInBounds_toArray, List.set_cons_zero, List.set_cons_succ, i64_w, i32_w]
                        rfl
                      refine pure_ (i := 6) (N := some 45) (v := ?_) (a' := ?_) #[true, true, true, true, true, true, true, false, false] rfl rfl (any_of HT_.out (by kernel_rfl)) (fun _ _ _ h => h) (Or.inl ⟨by rfl, ?_⟩) ?_ ?_
                      rotate_left
                      · intro w'
                        go_simp
                        with_reducible rfl
                      rotate_left
                      · simp only [Act.put, List.setIfInBounds_toArray, List.set_cons_zero, List.set_cons_succ, i64_w, i32_w]
                        rfl
                      refine one_ (i := 7) (N := some 8) #[true, true, true, true, true, true, true, true, false] rfl rfl (one_of HT_.out (by kernel_rfl)) (by decide) (fun K hK => ?_)
                      refine box_step ?hg (N := 8) ?hd (cs := #[.int .i64 0, .int .i64 0]) (t := 24) ?hr ?_; (case hd => rfl); (case hg => rfl); (case hr => first | (go_simp; done) | (go_simp; rfl))
                      intro gb165 hg w87 hbox hb
                      have n0_ := Aside0.mk (Kd.R_below (by (with_reducible repeat (first | apply Kd.R_alloc | apply Kd.R_drewN | apply Kd.R_drew)); exact HO142.out) hb)
                      have n1_ := Aside0.mk (Kd.R_below (by (with_reducible repeat (first | apply Kd.R_alloc | apply Kd.R_drewN | apply Kd.R_drew)); exact HO145.out) hb)
                      have n2_ := Aside0.mk (Kd.R_below (by (with_reducible repeat (first | apply Kd.R_alloc | apply Kd.R_drewN | apply Kd.R_drew)); exact HO154.out) hb)
                      have n3_ := Aside0.mk (Kd.R_below (by (with_reducible repeat (first | apply Kd.R_alloc | apply Kd.R_drewN | apply Kd.R_drew)); exact HO160.out) hb)
                      have n4_ := Aside0.mk (IsS50.below (by repeat (first | (with_reducible first | exact HI0.out | apply IsS50.alloc | apply IsS50.drewN | apply IsS50.drew | apply IsS50.set_1 | refine IsS50.far ?_ NB0_135.out _) | exact HI0.out)) hb)
                      have n5_ := Aside0.mk (blk_below (g := gb135) (o := .cells #[.int .i64 0, .int .i64 0] 24 (0, 0)) (by (with_reducible repeat (first | refine blk_drewN ?_ _ | refine blk_drew ?_ | refine blk_alloc ?_ _)); exact BK135.out) hb)
                      have n6_ := Aside0.mk (KeepBut.trans (by repeat (first | (with_reducible first | exact HK.out | apply KeepBut.set_ | apply keep_drewN | apply keep_drew | apply keep_alloc | refine keep_far ?_ GW135.out _) | exact HK.out)) (KeepBut.of_below hb g none) (.inl rfl))
                      have n7_ := Aside0.mk (below_step (by repeat (first | (with_reducible first | exact HB.out | apply below_alloc | apply pw_below_drewN | apply below_drew1 | refine below_set ?_ (IsS50.ge HI0.out) | refine below_set ?_ GE135.out) | exact HB.out)) hb)
                      have n8_ := Aside0.mk (hbox)
                      have n9_ := Aside0.mk ((by rw [hg]; exact (keep_size (w := w) (g := g) (row := none) (by repeat (first | (with_reducible first | exact HK.out | apply KeepBut.set_ | apply keep_drewN | apply keep_drew | apply keep_alloc | refine keep_far ?_ GW135.out _) | exact HK.out))) : w.heap.size ≤ gb165))
                      have n10_ := Aside0.mk ((Nat.le_trans HW0.out (by rw [hg]; exact (keep_size (w := w) (g := g) (row := none) (by repeat (first | (with_reducible first | exact HK.out | apply KeepBut.set_ | apply keep_drewN | apply keep_drew | apply keep_alloc | refine keep_far ?_ GW135.out _) | exact HK.out))) : w.heap.size ≤ gb165) : w0.heap.size ≤ gb165))
                      have n11_ := Aside0.mk ((by rw [hg]; exact Nat.ne_of_lt (blk_lt (g := gb135) (o := .cells #[.int .i64 0, .int .i64 0] 24 (0, 0)) (by (with_reducible repeat (first | refine blk_drewN ?_ _ | refine blk_drew ?_ | refine blk_alloc ?_ _)); exact BK135.out)) : gb135 ≠ gb165))
                      have n12_ := Aside0.mk ((by rw [hg]; exact Nat.ne_of_gt (blk_lt (g := gb135) (o := .cells #[.int .i64 0, .int .i64 0] 24 (0, 0)) (by (with_reducible repeat (first | refine blk_drewN ?_ _ | refine blk_drew ?_ | refine blk_alloc ?_ _)); exact BK135.out)) : gb165 ≠ gb135))
                      have n13_ := Aside0.mk ((by rw [hg]; exact Nat.ne_of_lt (IsS50.lt (show IsS50 w0 _ g s0_0 t162 from by repeat (first | (with_reducible first | exact HI0.out | apply IsS50.alloc | apply IsS50.drewN | apply IsS50.drew | apply IsS50.set_1 | refine IsS50.far ?_ NB0_135.out _) | exact HI0.out))) : g ≠ gb165))
                      have n14_ := Aside0.mk ((by rw [hg]; exact Nat.ne_of_gt (IsS50.lt (show IsS50 w0 _ g s0_0 t162 from by repeat (first | (with_reducible first | exact HI0.out | apply IsS50.alloc | apply IsS50.drewN | apply IsS50.drew | apply IsS50.set_1 | refine IsS50.far ?_ NB0_135.out _) | exact HI0.out))) : gb165 ≠ g))
                      clear HO142
                      clear HO145
                      clear HO154
                      clear HO160
                      clear HI0
                      clear BK135
                      clear HK
                      clear HB
                      have HO142 := n0_
                      have HO145 := n1_
                      have HO154 := n2_
                      have HO160 := n3_
                      have HI0 := n4_
                      have BK135 := n5_
                      have HK := n6_
                      have HB := n7_
                      have BK165 := n8_
                      have GW165 := n9_
                      have GE165 := n10_
                      have NB135_165 := n11_
                      have NB165_135 := n12_
                      have NB0_165 := n13_
                      have NB165_0 := n14_
                      clear n0_ n1_ n2_ n3_ n4_ n5_ n6_ n7_ n8_ n9_ n10_ n11_ n12_ n13_ n14_
                      clear hb hbox hg
                      refine hK.out _ _ trivial (fun hHeld => ?_)
                      clear hK K
                      refine norm_ (a' := ?_) ?_ ?_
                      rotate_left
                      · show Act.put _ (some 8) _ = _
                        simp only [Act.put, List.setIfInBounds_toArray, List.set_cons_zero, List.set_cons_succ, i64_w, i32_w]
                        rfl
                      refine one_ (i := 8) (N := none) #[true, true, true, true, true, true, true, true, true] rfl rfl (one_of HT_.out (by kernel_rfl)) (by decide) (fun K hK => ?_)
                      have hs88 : w87.cell? ⟨gb165, 0, none⟩ = some (.int .i64 0) := (blk_cell BK165.out 0).trans rfl
                      have hfs88 := blk_frozen BK165.out 0
                      have hns88_0 := NB135_165.out
                      have hms88_0 := NB165_135.out
                      have hs89 : w87.cell? ⟨gb165, 1, none⟩ = some (.int .i64 0) := (blk_cell BK165.out 1).trans rfl
                      have hfs89 := blk_frozen BK165.out 1
                      have hns89_0 := NB135_165.out
                      have hms89_0 := NB165_135.out
                      refine skip_ (w1 := ?_) (by rfl) rfl ?_ ?_
                      rotate_left
                      · go_simp
                        rfl
                      refine hK.out _ _ trivial (fun hHeld => ?_)
                      clear hK K
                      refine done_ (done_of HT_.out (by kernel_rfl)) ?_
                      try go_wp2_with (first | ((with_reducible refine gate_callee (f := 38) rfl ?_); refine goesL_ (some 48) rfl rfl Try.func38 (by kernel_rfl) rfl #[.pointer (some ⟨g, 0, none⟩), .int .i64 a1] rfl (by (try simp only [List.map_toArray, List.map_cons, List.map_nil]); first | done | rfl | (simp only [List.length_drop, List.length_take]; rfl)) ?_; (with_reducible refine (spec_l20Rd_odd.calls k g s0_0 t162 a1 false t167 w0 _ ?side1 ?side2 A19.out).mono ?_); (case side1 => repeat (first | (with_reducible first | exact HI0.out | apply IsS50.alloc | apply IsS50.drewN | apply IsS50.drew | apply IsS50.set_1 | refine IsS50.far ?_ NB0_135.out _ | refine IsS50.far ?_ NB0_165.out _) | exact HI0.out)); (case side2 => repeat (first | (with_reducible first | exact HB.out | apply below_alloc | apply pw_below_drewN | apply below_drew1 | refine below_set ?_ (IsS50.ge HI0.out) | refine below_set ?_ GE135.out | refine below_set ?_ GE165.out) | exact HB.out)); rintro e w90 ⟨rfl, hi, hb, hk⟩; refine ⟨_, rfl, ?_⟩; have n0_ := Aside0.mk (KeepBut.blk hk (g' := gb135) (o := .cells #[.int .i64 0, .int .i64 0] 24 (0, 0)) (by (with_reducible repeat (first | refine blk_drewN ?_ _ | refine blk_drew ?_ | refine blk_alloc ?_ _)); refine blk_far ?_ NB135_165.out _; (with_reducible repeat (first | refine blk_drewN ?_ _ | refine blk_drew ?_ | refine blk_alloc ?_ _)); refine blk_far ?_ NB135_165.out _; (with_reducible repeat (first | refine blk_drewN ?_ _ | refine blk_drew ?_ | refine blk_alloc ?_ _)); exact BK135.out) NB135_0.out (by simp)); have n1_ := Aside0.mk (Kd.R_mono (Kd.R_keep (IsS50.apart (show IsS50 w0 _ g s0_0 t162 from by repeat (first | (with_reducible first | exact HI0.out | apply IsS50.alloc | apply IsS50.drewN | apply IsS50.drew | apply IsS50.set_1 | refine IsS50.far ?_ NB0_135.out _ | refine IsS50.far ?_ NB0_165.out _) | exact HI0.out)) (by (with_reducible repeat (first | apply Kd.R_alloc | apply Kd.R_drewN | apply Kd.R_drew)); exact (Kd.R_mono (Kd.R_far (p := ⟨gb165, 1, none⟩) (Kd.R_far (p := ⟨gb165, 0, none⟩) (Kd.R_types HO142.out BK165.out (by decide)) (fun _ hk => hk.2) (.int .i64 (wrap64 (Int.tdiv (rd y140 (rd y143 t146)) t164)))) (fun _ hk => hk.2) (.int .i64 (wrap64 (Int.tdiv (rd y158 t161) t164)))) (fun _ h_ => h_.1))) (by decide)) hk (fun _ h => h.2)) (fun _ h => h.1)); have n2_ := Aside0.mk (Kd.R_mono (Kd.R_keep (IsS50.apart (show IsS50 w0 _ g s0_0 t162 from by repeat (first | (with_reducible first | exact HI0.out | apply IsS50.alloc | apply IsS50.drewN | apply IsS50.drew | apply IsS50.set_1 | refine IsS50.far ?_ NB0_135.out _ | refine IsS50.far ?_ NB0_165.out _) | exact HI0.out)) (by (with_reducible repeat (first | apply Kd.R_alloc | apply Kd.R_drewN | apply Kd.R_drew)); exact (Kd.R_mono (Kd.R_far (p := ⟨gb165, 1, none⟩) (Kd.R_far (p := ⟨gb165, 0, none⟩) (Kd.R_types HO145.out BK165.out (by decide)) (fun _ hk => hk.2) (.int .i64 (wrap64 (Int.tdiv (rd y140 (rd y143 t146)) t164)))) (fun _ hk => hk.2) (.int .i64 (wrap64 (Int.tdiv (rd y158 t161) t164)))) (fun _ h_ => h_.1))) (by decide)) hk (fun _ h => h.2)) (fun _ h => h.1)); have n3_ := Aside0.mk (Kd.R_mono (Kd.R_keep (IsS50.apart (show IsS50 w0 _ g s0_0 t162 from by repeat (first | (with_reducible first | exact HI0.out | apply IsS50.alloc | apply IsS50.drewN | apply IsS50.drew | apply IsS50.set_1 | refine IsS50.far ?_ NB0_135.out _ | refine IsS50.far ?_ NB0_165.out _) | exact HI0.out)) (by (with_reducible repeat (first | apply Kd.R_alloc | apply Kd.R_drewN | apply Kd.R_drew)); exact (Kd.R_mono (Kd.R_far (p := ⟨gb165, 1, none⟩) (Kd.R_far (p := ⟨gb165, 0, none⟩) (Kd.R_types HO154.out BK165.out (by decide)) (fun _ hk => hk.2) (.int .i64 (wrap64 (Int.tdiv (rd y140 (rd y143 t146)) t164)))) (fun _ hk => hk.2) (.int .i64 (wrap64 (Int.tdiv (rd y158 t161) t164)))) (fun _ h_ => h_.1))) (by decide)) hk (fun _ h => h.2)) (fun _ h => h.1)); have n4_ := Aside0.mk (Kd.R_mono (Kd.R_keep (IsS50.apart (show IsS50 w0 _ g s0_0 t162 from by repeat (first | (with_reducible first | exact HI0.out | apply IsS50.alloc | apply IsS50.drewN | apply IsS50.drew | apply IsS50.set_1 | refine IsS50.far ?_ NB0_135.out _ | refine IsS50.far ?_ NB0_165.out _) | exact HI0.out)) (by (with_reducible repeat (first | apply Kd.R_alloc | apply Kd.R_drewN | apply Kd.R_drew)); exact (Kd.R_mono (Kd.R_far (p := ⟨gb165, 1, none⟩) (Kd.R_far (p := ⟨gb165, 0, none⟩) (Kd.R_types HO160.out BK165.out (by decide)) (fun _ hk => hk.2) (.int .i64 (wrap64 (Int.tdiv (rd y140 (rd y143 t146)) t164)))) (fun _ hk => hk.2) (.int .i64 (wrap64 (Int.tdiv (rd y158 t161) t164)))) (fun _ h_ => h_.1))) (by decide)) hk (fun _ h => h.2)) (fun _ h => h.1)); have n5_ := Aside0.mk (KeepBut.blk hk (g' := gb165) (o := .cells #[.int .i64 (wrap64 (Int.tdiv (rd y140 (rd y143 t146)) t164)), .int .i64 (wrap64 (Int.tdiv (rd y158 t161) t164))] 24 (0, 0)) (by (with_reducible repeat (first | refine blk_drewN ?_ _ | refine blk_drew ?_ | refine blk_alloc ?_ _)); refine blk_put (cs := #[.int .i64 (wrap64 (Int.tdiv (rd y140 (rd y143 t146)) t164)), .int .i64 0]) ?_ 1 _ rfl; (with_reducible repeat (first | refine blk_drewN ?_ _ | refine blk_drew ?_ | refine blk_alloc ?_ _)); refine blk_put (cs := #[.int .i64 0, .int .i64 0]) ?_ 0 _ rfl; (with_reducible repeat (first | refine blk_drewN ?_ _ | refine blk_drew ?_ | refine blk_alloc ?_ _)); exact BK165.out) NB165_0.out (by simp)); have n6_ := Aside0.mk (KeepBut.trans (by repeat (first | (with_reducible first | exact HK.out | apply KeepBut.set_ | apply keep_drewN | apply keep_drew | apply keep_alloc | refine keep_far ?_ GW135.out _ | refine keep_far ?_ GW165.out _) | exact HK.out)) hk (.inl rfl)); have n7_ := Aside0.mk (hb); have n8_ := Aside0.mk (hi); clear BK135; clear HO142; clear HO145; clear HO154; clear HO160; clear BK165; clear HK; clear HB; clear HI0; have BK135 := n0_; have HO142 := n1_; have HO145 := n2_; have HO154 := n3_; have HO160 := n4_; have BK165 := n5_; have HK := n6_; have HB := n7_; have HI0 := n8_; clear n0_ n1_ n2_ n3_ n4_ n5_ n6_ n7_ n8_; (try clear hb); (try clear hb2); (try clear hk); (try clear hi); have hnb91 := NB165_135.out; have hnc91 := NB135_165.out; have hnb92 := NB165_0.out; have hnc92 := NB0_165.out; have hcz93_0 : w90.cell? ⟨gb165, 0, none⟩ = some (.int .i64 (wrap64 (Int.tdiv (rd y140 (rd y143 t146)) t164))) := (blk_cell BK165.out 0).trans rfl; have hcz93_1 : w90.cell? ⟨gb165, 1, none⟩ = some (.int .i64 (wrap64 (Int.tdiv (rd y158 t161) t164))) := (blk_cell BK165.out 1).trans rfl; have hfz93_0 := blk_frozen BK165.out 0; have hfz93_1 := blk_frozen BK165.out 1; have hnb94 := NB135_0.out; have hnc94 := NB0_135.out; have hcz95_0 : w90.cell? ⟨gb135, 0, none⟩ = some (.int .i64 0) := (blk_cell BK135.out 0).trans rfl; have hcz95_1 : w90.cell? ⟨gb135, 1, none⟩ = some (.int .i64 0) := (blk_cell BK135.out 1).trans rfl; have hfz95_0 := blk_frozen BK135.out 0; have hfz95_1 := blk_frozen BK135.out 1))
                      refine bodyPost_ret (results_cell_row rfl _ _ gb135 24 #[.int .i64 (wrap64 (Int.tdiv (rd y140 (rd y143 t146)) t164)), .int .i64 (wrap64 (Int.tdiv (rd y158 t161) t164))] (0, 0) _ rfl (by (with_reducible repeat (first | refine blk_drewN ?_ _ | refine blk_drew ?_ | refine blk_alloc ?_ _)); refine blk_put (cs := #[.int .i64 (wrap64 (Int.tdiv (rd y140 (rd y143 t146)) t164)), .int .i64 0]) ?_ 1 _ rfl; (with_reducible repeat (first | refine blk_drewN ?_ _ | refine blk_drew ?_ | refine blk_alloc ?_ _)); refine blk_put (cs := #[.int .i64 0, .int .i64 0]) ?_ 0 _ rfl; (with_reducible repeat (first | refine blk_drewN ?_ _ | refine blk_drew ?_ | refine blk_alloc ?_ _)); exact BK135.out) Try.underlying24 rfl (by kernel_rfl)) rfl ?_
                      exact ⟨by first | rfl | (simp [errW_none, errW_some] <;> rfl) | (simp [*, errW_none, errW_some] <;> rfl), by repeat (first | (with_reducible first | exact HI0.out | apply IsS50.alloc | apply IsS50.drewN | apply IsS50.drew | apply IsS50.set_1 | refine IsS50.far ?_ NB0_135.out _ | refine IsS50.far ?_ NB0_165.out _) | exact HI0.out), by repeat (first | (with_reducible first | exact HB.out | apply below_alloc | apply pw_below_drewN | apply below_drew1 | refine below_set ?_ (IsS50.ge HI0.out) | refine below_set ?_ GE135.out | refine below_set ?_ GE165.out) | exact HB.out), by repeat (first | (with_reducible first | exact HK.out | apply KeepBut.set_ | apply keep_drewN | apply keep_drew | apply keep_alloc | refine keep_far ?_ GW135.out _ | refine keep_far ?_ GW165.out _) | exact HK.out)⟩
                · rw [if_neg c16] at H
                  exact absurd H (by simp)
              · rw [if_neg c15] at H
                exact absurd H (by simp)
            · rw [if_neg c13] at H
              exact absurd H (by simp)
          · rw [if_neg c12] at H
            exact absurd H (by simp)
        · rw [if_neg c9] at H
          exact absurd H (by simp)
      · rw [if_neg c8] at H
        exact absurd H (by simp)
    · rw [if_neg c7] at H
      exact absurd H (by simp)
  · rw [if_neg c6] at H
    exact absurd H (by simp)

end Go.Proofs.Ytahjhpkaicpioaa.PFnDivFractions
