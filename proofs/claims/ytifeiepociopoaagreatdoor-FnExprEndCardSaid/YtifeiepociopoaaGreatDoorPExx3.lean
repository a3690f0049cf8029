-- Written for this session by its program hprint.py over the kit's print: functions, and contracts that the walk of the Go code proves.
import Derived.Test.YtifeiepociopoaaGreatDoorPExx0
import Derived.Test.YtifeiepociopoaaGreatDoorPExx1
import Derived.Test.YtifeiepociopoaaGreatDoorPExx2
namespace Go.Proofs.YtifeiepociopoaaGreatDoor.PEx
open Go.RowKit Go.Proofs.YtifeiepociopoaaGreatDoor.Hand Go.Proofs.YtifeiepociopoaaGreatDoorW.PrintWords Go.Proofs.YtifeiepociopoaaGreatDoorW.PrintLast Go.Proofs.YtifeiepociopoaaGreatDoorW.PrintMore
attribute [local go_sem] max2_int min2_int max_two min_two max_three min_three max_four min_four   -- for this text's walks alone
set_option linter.unusedVariables false
set_option linter.unusedSimpArgs false

/-! ### spec_l20Cells: function 35 -/
theorem zz3_0_ {P1 Q : Prop} (h1 : P1) (f : P1 → Q := by intro zq1_; repeat (first | (with_reducible first | exact zq1_ | apply KeepBut.set_ | apply keep_drewN | apply keep_drew | apply keep_alloc) | exact zq1_)) : Q := f h1
theorem zz3_1_ {P1 Q : Prop} (h1 : P1) (f : P1 → Q := by intro zq1_; repeat (first | (with_reducible first | exact zq1_ | apply IsS47.alloc | apply IsS47.drewN | apply IsS47.drew | apply IsS47.set_1) | exact zq1_)) : Q := f h1
theorem zz3_2_ {P1 P2 Q : Prop} (h1 : P1) (h2 : P2) (f : P1 → P2 → Q := by intro zq1_ zq2_; repeat (first | (with_reducible first | exact zq1_ | apply below_alloc | apply pw_below_drewN | apply below_drew1 | refine below_set ?_ (IsS47.ge zq2_)) | exact zq1_)) : Q := f h1 h2
theorem zz3_3_ {Q : Prop} (f : Q := by (try simp only [List.map_toArray, List.map_cons, List.map_nil]); first | done | rfl | (simp only [List.length_drop, List.length_take]; rfl)) : Q := f
theorem zz3_4_ {P1 Q : Prop} (h1 : P1) (f : P1 → Q := by intro zq1_; (with_reducible repeat (first | apply Kd.R_alloc | apply Kd.R_drewN | apply Kd.R_drew)); exact zq1_) : Q := f h1
theorem zz3_5_ {Q : Prop} (f : Q := by first | (with_reducible assumption) | assumption) : Q := f
mutual
def spec_l20Cells.j0 : Nat → Int → Int → List Int → Int → Option ((List (S35)) × Int)
 | 0, _, _, _, _ => none
 | k + 1, x1, x5, x1000, x1001 => if x5 = 1 then ((some (([(⟨#[48]⟩ : ByteArray), (⟨#[49]⟩ : ByteArray), (⟨#[50]⟩ : ByteArray), (⟨#[49, 50]⟩ : ByteArray), (⟨#[48, 46, 53]⟩ : ByteArray), (⟨#[51, 46, 50, 53]⟩ : ByteArray)] : List ByteArray) : List ByteArray)).bind fun y132 => ((spec_l20Rd_pick.f k x1000 x1001 6).bind fun bt135 => (if 0 ≤ bt135.1 then (if bt135.1 < (y132.length : Int) then (some ((([(⟨1, rdOf ByteArray.empty y132 bt135.1, 0⟩ : S35)] : List (S35))), bt135.2)) else (none)) else (none)))) else (if x5 = 2 then ((some (([(⟨#[]⟩ : ByteArray), (⟨#[97]⟩ : ByteArray), (⟨#[65, 98]⟩ : ByteArray), (⟨#[120, 10, 121]⟩ : ByteArray), (⟨#[34]⟩ : ByteArray), (⟨#[35]⟩ : ByteArray)] : List ByteArray) : List ByteArray)).bind fun y141 => ((spec_l20Rd_pick.f k x1000 x1001 6).bind fun bt144 => (if 0 ≤ bt144.1 then (if bt144.1 < (y141.length : Int) then (some ((([(⟨2, rdOf ByteArray.empty y141 bt144.1, 0⟩ : S35)] : List (S35))), bt144.2)) else (none)) else (none)))) else (if x5 = 3 then ((some (([(⟨#[116, 114, 117, 101]⟩ : ByteArray), (⟨#[102, 97, 108, 115, 101]⟩ : ByteArray)] : List ByteArray) : List ByteArray)).bind fun y150 => ((spec_l20Rd_pick.f k x1000 x1001 2).bind fun bt153 => (if 0 ≤ bt153.1 then (if bt153.1 < (y150.length : Int) then (some ((([(⟨3, rdOf ByteArray.empty y150 bt153.1, 0⟩ : S35)] : List (S35))), bt153.2)) else (none)) else (none)))) else (if x5 = 4 then ((spec_l20Name.f k x1000 x1001 0).bind fun bt159 => (some ((([(⟨4, bt159.1, 0⟩ : S35)] : List (S35))), bt159.2))) else ((spec_l20Rd_pick.f k x1000 x1001 3).bind fun bt164 => ((spec_l20Rd_pick.f k x1000 bt164.2 2).bind fun bt166 => ((some (([0, 0, 0, 0, 0, bt164.1, wrap64 (1 + bt166.1), 1, 2, 3] : List Int) : List Int)).bind fun y168 => (if 0 ≤ x5 then (if x5 < (y168.length : Int) then (if x5 = 6 then ((some (([(⟨#[108, 101, 110, 103, 116, 104]⟩ : ByteArray), (⟨#[117, 112, 112, 101, 114]⟩ : ByteArray), (⟨#[109, 105, 110]⟩ : ByteArray), (⟨#[109, 97, 120]⟩ : ByteArray), (⟨#[102, 105, 114, 115, 116]⟩ : ByteArray), (⟨#[114, 101, 118, 101, 114, 115, 101]⟩ : ByteArray), (⟨#[99, 111, 110, 116, 97, 105, 110, 115]⟩ : ByteArray), (⟨#[106, 111, 105, 110]⟩ : ByteArray), (⟨#[102]⟩ : ByteArray)] : List ByteArray) : List ByteArray)).bind fun y172 => ((spec_l20Rd_pick.f k x1000 bt166.2 9).bind fun bt175 => (if 0 ≤ bt175.1 then (if bt175.1 < (y172.length : Int) then (spec_l20Cells.j1 k x1 x5 (rd y168 x5) (rdOf ByteArray.empty y172 bt175.1) x1000 bt175.2) else (none)) else (none)))) else (if x5 = 7 then ((some (([(⟨#[33]⟩ : ByteArray), (⟨#[45]⟩ : ByteArray)] : List ByteArray) : List ByteArray)).bind fun y178 => ((spec_l20Rd_pick.f k x1000 bt166.2 2).bind fun bt181 => (if 0 ≤ bt181.1 then (if bt181.1 < (y178.length : Int) then (spec_l20Cells.j1 k x1 x5 (rd y168 x5) (rdOf ByteArray.empty y178 bt181.1) x1000 bt181.2) else (none)) else (none)))) else (if x5 = 8 then ((some (([(⟨#[124, 124]⟩ : ByteArray), (⟨#[38, 38]⟩ : ByteArray), (⟨#[61, 61]⟩ : ByteArray), (⟨#[33, 61]⟩ : ByteArray), (⟨#[60]⟩ : ByteArray), (⟨#[60, 61]⟩ : ByteArray), (⟨#[62]⟩ : ByteArray), (⟨#[62, 61]⟩ : ByteArray), (⟨#[43]⟩ : ByteArray), (⟨#[45]⟩ : ByteArray), (⟨#[42]⟩ : ByteArray), (⟨#[47]⟩ : ByteArray), (⟨#[37]⟩ : ByteArray), (⟨#[38, 38]⟩ : ByteArray), (⟨#[43]⟩ : ByteArray)] : List ByteArray) : List ByteArray)).bind fun y184 => ((spec_l20Rd_pick.f k x1000 bt166.2 15).bind fun bt187 => (if 0 ≤ bt187.1 then (if bt187.1 < (y184.length : Int) then (spec_l20Cells.j1 k x1 x5 (rd y168 x5) (rdOf ByteArray.empty y184 bt187.1) x1000 bt187.2) else (none)) else (none)))) else (spec_l20Cells.j1 k x1 x5 (rd y168 x5) (⟨#[]⟩ : ByteArray) x1000 bt166.2)))) else (none)) else (none))))))))
def spec_l20Cells.j1 : Nat → Int → Int → Int → ByteArray → List Int → Int → Option ((List (S35)) × Int)
 | 0, _, _, _, _, _, _ => none
 | k + 1, x1, x5, x6, x7, x1000, x1001 => spec_l20Cells.l0 k x1 x6 (([(⟨x5, x7, x6⟩ : S35)] : List (S35))) 0 x1000 x1001
def spec_l20Cells.l0 : Nat → Int → Int → List (S35) → Int → List Int → Int → Option ((List (S35)) × Int)
 | 0, _, _, _, _, _, _ => none
 | k + 1, x1, x6, x8, x9, x1000, x1001 => if x9 < x6 then ((spec_l20Cells.f k x1000 x1001 (wrap64 (x1 - 1))).bind fun bt193 => (if x8.length + bt193.1.length < 4398046511104 then (spec_l20Cells.l0 k x1 x6 (x8 ++ bt193.1) (wrap64 (x9 + 1)) x1000 bt193.2) else (none))) else (some (x8, x1001))
def spec_l20Cells.f : Nat → List Int → Int → Int → Option ((List (S35)) × Int)
 | 0, _, _, _ => none
 | k + 1, s0_0, s0_1, a1 => (some (([1, 2, 3, 4, 4, 5, 6, 7, 7, 8, 8, 8, 9] : List Int) : List Int)).bind fun y124 => ((spec_l20Rd_pick.f k s0_0 s0_1 13).bind fun bt127 => (if 0 ≤ bt127.1 then (if bt127.1 < (y124.length : Int) then (if a1 ≤ 1 then ((spec_l20Rd_pick.f k s0_0 bt127.2 4).bind fun bt130 => (spec_l20Cells.j0 k a1 (wrap64 (1 + bt130.1)) s0_0 bt130.2)) else (spec_l20Cells.j0 k a1 (rd y124 bt127.1) s0_0 bt127.2)) else (none)) else (none)))
end
theorem spec_l20Cells.mono_l : ∀ k, (∀ y0 y1 y2, LeO (spec_l20Cells.f k y0 y1 y2) (spec_l20Cells.f (k + 1) y0 y1 y2)) ∧ (∀ y0 y1 y2 y3, LeO (spec_l20Cells.j0 k y0 y1 y2 y3) (spec_l20Cells.j0 (k + 1) y0 y1 y2 y3)) ∧ (∀ y0 y1 y2 y3 y4 y5, LeO (spec_l20Cells.j1 k y0 y1 y2 y3 y4 y5) (spec_l20Cells.j1 (k + 1) y0 y1 y2 y3 y4 y5)) ∧ (∀ y0 y1 y2 y3 y4 y5, LeO (spec_l20Cells.l0 k y0 y1 y2 y3 y4 y5) (spec_l20Cells.l0 (k + 1) y0 y1 y2 y3 y4 y5))
 | 0 => ⟨fun _ _ _ r h => by simp [spec_l20Cells.f] at h, fun _ _ _ _ r h => by simp [spec_l20Cells.j0] at h, fun _ _ _ _ _ _ r h => by simp [spec_l20Cells.j1] at h, fun _ _ _ _ _ _ r h => by simp [spec_l20Cells.l0] at h⟩
 | k + 1 => by
  obtain ⟨ih0, ih1, ih2, ih3⟩ := spec_l20Cells.mono_l k
  refine ⟨?_, ?_, ?_, ?_⟩
  ·intro y0 y1 y2
   unfold spec_l20Cells.f
   repeat' first
   | (with_reducible exact ih0 _ _ _)
   | (with_reducible exact ih1 _ _ _ _)
   | (with_reducible exact ih2 _ _ _ _ _ _)
   | (with_reducible exact ih3 _ _ _ _ _ _)
   | (with_reducible exact spec_l20Name.mono _ _ _ _)
   | (with_reducible exact spec_l20Rd_pick.mono _ _ _ _)
   | (with_reducible exact LeO.refl _)
   | (with_reducible exact LeO.none _)
   | (with_reducible refine LeO.ite ?_ ?_)
   | (with_reducible refine LeO.bind ?_ (fun _ => ?_))
   | exact ih0 _ _ _
   | exact ih1 _ _ _ _
   | exact ih2 _ _ _ _ _ _
   | exact ih3 _ _ _ _ _ _
   | exact spec_l20Name.mono _ _ _ _
   | exact spec_l20Rd_pick.mono _ _ _ _
   | exact LeO.none _
   | refine LeO.ite ?_ ?_
   | refine LeO.bind ?_ (fun _ => ?_)
  ·intro y0 y1 y2 y3
   unfold spec_l20Cells.j0
   repeat' first
   | (with_reducible exact ih0 _ _ _)
   | (with_reducible exact ih1 _ _ _ _)
   | (with_reducible exact ih2 _ _ _ _ _ _)
   | (with_reducible exact ih3 _ _ _ _ _ _)
   | (with_reducible exact spec_l20Name.mono _ _ _ _)
   | (with_reducible exact spec_l20Rd_pick.mono _ _ _ _)
   | (with_reducible exact LeO.refl _)
   | (with_reducible exact LeO.none _)
   | (with_reducible refine LeO.ite ?_ ?_)
   | (with_reducible refine LeO.bind ?_ (fun _ => ?_))
   | exact ih0 _ _ _
   | exact ih1 _ _ _ _
   | exact ih2 _ _ _ _ _ _
   | exact ih3 _ _ _ _ _ _
   | exact spec_l20Name.mono _ _ _ _
   | exact spec_l20Rd_pick.mono _ _ _ _
   | exact LeO.none _
   | refine LeO.ite ?_ ?_
   | refine LeO.bind ?_ (fun _ => ?_)
  ·intro y0 y1 y2 y3 y4 y5
   unfold spec_l20Cells.j1
   repeat' first
   | (with_reducible exact ih0 _ _ _)
   | (with_reducible exact ih1 _ _ _ _)
   | (with_reducible exact ih2 _ _ _ _ _ _)
   | (with_reducible exact ih3 _ _ _ _ _ _)
   | (with_reducible exact spec_l20Name.mono _ _ _ _)
   | (with_reducible exact spec_l20Rd_pick.mono _ _ _ _)
   | (with_reducible exact LeO.refl _)
   | (with_reducible exact LeO.none _)
   | (with_reducible refine LeO.ite ?_ ?_)
   | (with_reducible refine LeO.bind ?_ (fun _ => ?_))
   | exact ih0 _ _ _
   | exact ih1 _ _ _ _
   | exact ih2 _ _ _ _ _ _
   | exact ih3 _ _ _ _ _ _
   | exact spec_l20Name.mono _ _ _ _
   | exact spec_l20Rd_pick.mono _ _ _ _
   | exact LeO.none _
   | refine LeO.ite ?_ ?_
   | refine LeO.bind ?_ (fun _ => ?_)
  ·intro y0 y1 y2 y3 y4 y5
   unfold spec_l20Cells.l0
   repeat' first
   | (with_reducible exact ih0 _ _ _)
   | (with_reducible exact ih1 _ _ _ _)
   | (with_reducible exact ih2 _ _ _ _ _ _)
   | (with_reducible exact ih3 _ _ _ _ _ _)
   | (with_reducible exact spec_l20Name.mono _ _ _ _)
   | (with_reducible exact spec_l20Rd_pick.mono _ _ _ _)
   | (with_reducible exact LeO.refl _)
   | (with_reducible exact LeO.none _)
   | (with_reducible refine LeO.ite ?_ ?_)
   | (with_reducible refine LeO.bind ?_ (fun _ => ?_))
   | exact ih0 _ _ _
   | exact ih1 _ _ _ _
   | exact ih2 _ _ _ _ _ _
   | exact ih3 _ _ _ _ _ _
   | exact spec_l20Name.mono _ _ _ _
   | exact spec_l20Rd_pick.mono _ _ _ _
   | exact LeO.none _
   | refine LeO.ite ?_ ?_
   | refine LeO.bind ?_ (fun _ => ?_)
theorem spec_l20Cells.mono : ∀ a0 a1 a2 k, LeO (spec_l20Cells.f k a0 a1 a2) (spec_l20Cells.f (k + 1) a0 a1 a2) := by
 intro a0 a1 a2 k
 obtain ⟨ih0, ih1, ih2, ih3⟩ := spec_l20Cells.mono_l k
 exact ih0 a0 a1 a2
set_option maxHeartbeats 8000000 in
set_option maxRecDepth 100000 in
theorem spec_l20Cells.calls (k : Nat) : ∀ (g : Nat) (s0_0 : List Int) (s0_1 : Int) (a1 : Int) (r1 : List (S35)) (r2 : Int) (w0 w : World) (hI : IsS47 w0 w g s0_0 s0_1) (hB : Below w0.heap.size w0 w) (h : spec_l20Cells.f k s0_0 s0_1 a1 = some (r1, r2)),
  Calls Tryz.prog 35 #[.pointer (some ⟨g, 0, none⟩), .int .i64 a1] w fun e w' => ∃ v0_ : Value, e = .returned (v0_) ∧ Kd.R k35 35 w' w.heap.size (fun _ => True) v0_ r1 ∧ IsS47 w0 w' g s0_0 r2 ∧ Below w0.heap.size w0 w' ∧ KeepBut w w' g none := by
 induction k using Nat.strongRecOn with
 | _ k ih =>
 intro g s0_0 s0_1 a1 r1 r2 w0 w hI hB h
 cases k with
 | zero => exact absurd h (by simp [spec_l20Cells.f])
 | succ k =>
 simp only [spec_l20Cells.f] at h
 have hu35 := Tryz.underlying35
 have HI0 := Aside0.mk hI
 have HK := Aside0.mk (KeepBut.refl w g none)
 have HL := Aside0.mk hB.size
 clear hI
 have HW0 := Aside0.mk hB.size
 have HB := Aside0.mk hB
 clear hB
 have H : ((some (([1, 2, 3, 4, 4, 5, 6, 7, 7, 8, 8, 8, 9] : List Int) : List Int)).bind fun y124 => ((spec_l20Rd_pick.f k s0_0 s0_1 13).bind fun bt127 => (if 0 ≤ bt127.1 then (if bt127.1 < (y124.length : Int) then (if a1 ≤ 1 then ((spec_l20Rd_pick.f k s0_0 bt127.2 4).bind fun bt130 => (spec_l20Cells.j0 k a1 (wrap64 (1 + bt130.1)) s0_0 bt130.2)) else (spec_l20Cells.j0 k a1 (rd y124 bt127.1) s0_0 bt127.2)) else (none)) else (none)))) = some (r1, r2) := h
 clear h
 obtain ⟨y124, hy124⟩ : ∃ y_ : List Int, y_ = (([1, 2, 3, 4, 4, 5, 6, 7, 7, 8, 8, 8, 9] : List Int)) := ⟨_, rfl⟩
 replace H : ((spec_l20Rd_pick.f k s0_0 s0_1 13).bind fun bt127 => (if 0 ≤ bt127.1 then (if bt127.1 < (y124.length : Int) then (if a1 ≤ 1 then ((spec_l20Rd_pick.f k s0_0 bt127.2 4).bind fun bt130 => (spec_l20Cells.j0 k a1 (wrap64 (1 + bt130.1)) s0_0 bt130.2)) else (spec_l20Cells.j0 k a1 (rd y124 bt127.1) s0_0 bt127.2)) else (none)) else (none))) = some (r1, r2) := by first | (rw [hy124]; with_reducible exact H) | (have H2_ := (Option.bind_some _ _).symm.trans H; rw [hy124]; with_reducible exact H2_) | (have H2_ := (Option.bind_some _ _).symm.trans H; with_reducible exact H2_) | with_reducible exact H | (rw [hy124]; exact H) | exact H
 have Ny124 := Aside0.mk hy124
 clear hy124
 replace H := Option.bind_eq_some_iff.mp H
 obtain ⟨⟨t127, t128⟩, A30, H⟩ := H
 try dsimp only at H
 have A3 := Aside0.mk A30
 clear A30
 by_cases c4 : 0 ≤ t127
 ·rw [if_pos c4] at H
  have c4b0 : decide (0 ≤ t127) = true := decide_eq_true c4
  clear c4
  by_cases c5 : t127 < (y124.length : Int)
  ·rw [if_pos c5] at H
   have c5b0 : decide (t127 < (y124.length : Int)) = true := decide_eq_true c5
   clear c5
   have HC6 := Aside0.mk H
   clear H
   go_enter Tryz.func35, Tryz.ntmps35
   go_upto_if 16 with (first | ((with_reducible refine gate_dst (N := 10) rfl ?_); refine Kd.R_lit (Kd.int .i64) _ 3 ?hg (N := 10) ?hd (xs := ([1, 2, 3, 4, 4, 5, 6, 7, 7, 8, 8, 8, 9] : List Int)) (inner := [.int .i64 1, .int .i64 2, .int .i64 3, .int .i64 4, .int .i64 4, .int .i64 5, .int .i64 6, .int .i64 7, .int .i64 7, .int .i64 8, .int .i64 8, .int .i64 8, .int .i64 9]) (ok := fun _ => True) (okp := fun _ => True) ?hr ?hp (fun _ hk => hk) trivial (Below.refl _ _) (Nat.le_refl _) (by simp) ?_; (case hd => rfl); (case hg => rfl); (case hr => first | (go_simp; done) | (go_simp; rfl)); (case hp => exact (Reps.one (show Kd.M (Kd.int .i64) _ _ _ 1 [.int .i64 1] from rfl) (Reps.one (show Kd.M (Kd.int .i64) _ _ _ 2 [.int .i64 2] from rfl) (Reps.one (show Kd.M (Kd.int .i64) _ _ _ 3 [.int .i64 3] from rfl) (Reps.one (show Kd.M (Kd.int .i64) _ _ _ 4 [.int .i64 4] from rfl) (Reps.one (show Kd.M (Kd.int .i64) _ _ _ 4 [.int .i64 4] from rfl) (Reps.one (show Kd.M (Kd.int .i64) _ _ _ 5 [.int .i64 5] from rfl) (Reps.one (show Kd.M (Kd.int .i64) _ _ _ 6 [.int .i64 6] from rfl) (Reps.one (show Kd.M (Kd.int .i64) _ _ _ 7 [.int .i64 7] from rfl) (Reps.one (show Kd.M (Kd.int .i64) _ _ _ 7 [.int .i64 7] from rfl) (Reps.one (show Kd.M (Kd.int .i64) _ _ _ 8 [.int .i64 8] from rfl) (Reps.one (show Kd.M (Kd.int .i64) _ _ _ 8 [.int .i64 8] from rfl) (Reps.one (show Kd.M (Kd.int .i64) _ _ _ 8 [.int .i64 8] from rfl) (Reps.one (show Kd.M (Kd.int .i64) _ _ _ 9 [.int .i64 9] from rfl) (Reps.none _ _))))))))))))))); intro v125 w7 ho8 hb hg_ hnew_; clear hg_ hnew_; (first | rw [← Ny124.out] at ho8 | (simp only [Int.reduceToNat] at ho8; rw [← Ny124.out] at ho8)); have n0_ := Aside0.mk (Kd.R_lower ho8 (keep_size (w := w) (g := g) (row := none) (zz3_0_ HK.out))); have n1_ := Aside0.mk (IsS47.below (zz3_1_ HI0.out) hb); have n2_ := Aside0.mk (KeepBut.trans (zz3_0_ HK.out) (KeepBut.of_below hb g none) (.inl rfl)); have n3_ := Aside0.mk (below_step (zz3_2_ HB.out HI0.out) hb); clear HI0; clear HK; clear HB; have HO126 := n0_; have HI0 := n1_; have HK := n2_; have HB := n3_; clear n0_ n1_ n2_ n3_; clear hb ho8) | ((with_reducible refine gate_callee (f := 30) rfl ?_); refine goesL_ (some 12) rfl rfl Tryz.func30 (by kernel_rfl) rfl #[.pointer (some ⟨g, 0, none⟩), .int .i64 13] rfl (zz3_3_) ?_; (with_reducible refine (spec_l20Rd_pick.calls k g s0_0 s0_1 13 t127 t128 w0 _ ?side1 ?side2 A3.out).mono ?_); (case side1 => exact zz3_1_ HI0.out); (case side2 => exact zz3_2_ HB.out HI0.out); rintro e w9 ⟨rfl, hi, hb, hk⟩; refine ⟨_, rfl, ?_⟩; have n0_ := Aside0.mk (Kd.R_mono (Kd.R_keep (IsS47.apart (show IsS47 w0 _ g s0_0 s0_1 from by repeat (first | (with_reducible first | exact HI0.out | apply IsS47.alloc | apply IsS47.drewN | apply IsS47.drew | apply IsS47.set_1) | exact HI0.out)) (zz3_4_ HO126.out) (by decide)) hk (fun _ h => h.2)) (fun _ h => h.1)); have n1_ := Aside0.mk (KeepBut.trans (zz3_0_ HK.out) hk (.inl rfl)); have n2_ := Aside0.mk (hb); have n3_ := Aside0.mk (hi); clear HO126; clear HK; clear HB; clear HI0; have HO126 := n0_; have HK := n1_; have HB := n2_; have HI0 := n3_; clear n0_ n1_ n2_ n3_; (try clear hb); (try clear hb2); (try clear hk); (try clear hi); obtain ⟨Ao10, co10, eo10⟩ := Kd.R_slice HO126.out; subst eo10; have p129 : 0 ≤ (t127 : Int) := of_decide_eq_true (zz3_5_); have q129 : t127 < (y124.length : Int) := of_decide_eq_true (zz3_5_); obtain ⟨ad129, e129, hx129_0⟩ := Kd.at_int (Kd.R_reads' HO126.out).2.2 t127 p129 q129; cases e129; replace p129 := eq_true p129; replace q129 := eq_true q129))
   (try simp only [Act.put, List.setIfInBounds_toArray, List.set_cons_zero, List.set_cons_succ])
   go_cut [5] (fun v5 wc => ∃ (kq : Nat) (x5_5 : Int) (x1001_5 : Int), v5 = .int .i64 x5_5 ∧ Aside0 (spec_l20Cells.j0 kq a1 x5_5 s0_0 x1001_5 = some (r1, r2)) ∧ Aside0 (kq ≤ k) ∧ Aside0 (IsS47 w0 wc g s0_0 x1001_5) ∧ Aside0 (KeepBut w wc g none) ∧ Aside0 (Below w0.heap.size w0 wc))
   case first =>
    have H := HC6.out
    clear HC6
    by_cases c11 : a1 ≤ 1
    ·rw [if_pos c11] at H
     have c11b0 : decide (a1 ≤ 1) = true := decide_eq_true c11
     clear c11
     (first | rw [c11b0] | (simp only [i64_w, i32_w]; rw [c11b0]) | skip)
     replace H := Option.bind_eq_some_iff.mp H
     obtain ⟨⟨t130, t131⟩, A120, H⟩ := H
     try dsimp only at H
     have A12 := Aside0.mk A120
     clear A120
     have H' := Aside0.mk H
     clear H
     go_wp2_with (first | ((with_reducible refine gate_callee (f := 30) rfl ?_); refine goesL_ (some 18) rfl rfl Tryz.func30 (by kernel_rfl) rfl #[.pointer (some ⟨g, 0, none⟩), .int .i64 4] rfl (zz3_3_) ?_; (with_reducible refine (spec_l20Rd_pick.calls k g s0_0 t128 4 t130 t131 w0 _ ?side1 ?side2 A12.out).mono ?_); (case side1 => exact zz3_1_ HI0.out); (case side2 => exact zz3_2_ HB.out HI0.out); rintro e w13 ⟨rfl, hi, hb, hk⟩; refine ⟨_, rfl, ?_⟩; have n0_ := Aside0.mk (Kd.R_mono (Kd.R_keep (IsS47.apart (show IsS47 w0 _ g s0_0 t128 from by repeat (first | (with_reducible first | exact HI0.out | apply IsS47.alloc | apply IsS47.drewN | apply IsS47.drew | apply IsS47.set_1) | exact HI0.out)) (zz3_4_ HO126.out) (by decide)) hk (fun _ h => h.2)) (fun _ h => h.1)); have n1_ := Aside0.mk (KeepBut.trans (zz3_0_ HK.out) hk (.inl rfl)); have n2_ := Aside0.mk (hb); have n3_ := Aside0.mk (hi); clear HO126; clear HK; clear HB; clear HI0; have HO126 := n0_; have HK := n1_; have HB := n2_; have HI0 := n3_; clear n0_ n1_ n2_ n3_; (try clear hb); (try clear hb2); (try clear hk); (try clear hi)))
     go_meet
     case rel => exact ⟨_, (wrap64 (1 + t130)), (t131), (by first | rfl | (simp; done) | (simp [*]; done)), H', ⟨by first | omega | exact Nat.le_refl _⟩, ⟨zz3_1_ HI0.out⟩, ⟨zz3_0_ HK.out⟩, ⟨zz3_2_ HB.out HI0.out⟩⟩
    ·rw [if_neg c11] at H
     have c11b0 : decide (a1 ≤ 1) = false := decide_eq_false c11
     clear c11
     (first | rw [c11b0] | (simp only [i64_w, i32_w]; rw [c11b0]) | skip)
     have H' := Aside0.mk H
     clear H
     go_wp2
     go_meet
     case rel => exact ⟨_, (rd y124 t127), (t128), (by first | rfl | (simp; done) | (simp [*]; done)), H', ⟨by first | omega | exact Nat.le_refl _⟩, ⟨zz3_1_ HI0.out⟩, ⟨zz3_0_ HK.out⟩, ⟨zz3_2_ HB.out HI0.out⟩⟩
   case rest =>
    clear HC6
    try clear c1
    try clear p1
    try clear q1
    try clear hx1
    try clear p2
    try clear c3
    try clear c4
    try clear c4b0
    try clear c5
    try clear c5b0
    try clear p6
    try clear c11
    try clear c11b0
    try clear p12
    try clear q12
    try clear hx12
    try clear hx129_0
    try clear p129
    try clear q129
    obtain ⟨kq, x5_5, x1001_5, rfl, HA, HJ5, HI0, HK, HB⟩ := hcut
    cases kq with
    | zero => exact absurd HA.out (by simp [spec_l20Cells.j0])
    | succ kj5 =>
     have H := HA.out
     clear HA
     simp only [spec_l20Cells.j0] at H
     by_cases c14 : x5_5 = 1
     ·rw [if_pos c14] at H
      have c14b0 : (x5_5 == 1) = true := beq_iff_eq.mpr c14
      have c14b1 : (x5_5 != 1) = false := bne_eq_false_iff_eq.mpr c14
      clear c14
      obtain ⟨y132, hy132⟩ : ∃ y_ : List ByteArray, y_ = (([(⟨#[48]⟩ : ByteArray), (⟨#[49]⟩ : ByteArray), (⟨#[50]⟩ : ByteArray), (⟨#[49, 50]⟩ : ByteArray), (⟨#[48, 46, 53]⟩ : ByteArray), (⟨#[51, 46, 50, 53]⟩ : ByteArray)] : List ByteArray)) := ⟨_, rfl⟩
      replace H : ((spec_l20Rd_pick.f kj5 s0_0 x1001_5 6).bind fun bt135 => (if 0 ≤ bt135.1 then (if bt135.1 < (y132.length : Int) then (some ((([(⟨1, rdOf ByteArray.empty y132 bt135.1, 0⟩ : S35)] : List (S35))), bt135.2)) else (none)) else (none))) = some (r1, r2) := by first | (rw [hy132]; with_reducible exact H) | (have H2_ := (Option.bind_some _ _).symm.trans H; rw [hy132]; with_reducible exact H2_) | (have H2_ := (Option.bind_some _ _).symm.trans H; with_reducible exact H2_) | with_reducible exact H | (rw [hy132]; exact H) | exact H
      have Ny132 := Aside0.mk hy132
      clear hy132
      replace H := Option.bind_eq_some_iff.mp H
      obtain ⟨⟨t135, t136⟩, A150, H⟩ := H
      try dsimp only at H
      have A15 := Aside0.mk A150
      clear A150
      by_cases c16 : 0 ≤ t135
      ·rw [if_pos c16] at H
       have c16b0 : decide (0 ≤ t135) = true := decide_eq_true c16
       clear c16
       by_cases c17 : t135 < (y132.length : Int)
       ·rw [if_pos c17] at H
        have c17b0 : decide (t135 < (y132.length : Int)) = true := decide_eq_true c17
        clear c17
        obtain ⟨y138, hy138⟩ : ∃ y_ : List (S35), y_ = (([(⟨1, rdOf ByteArray.empty y132 t135, 0⟩ : S35)] : List (S35))) := ⟨_, rfl⟩
        replace H : (some (y138, t136)) = some (r1, r2) := by first | (rw [hy138]; with_reducible exact H) | (have H2_ := (Option.bind_some _ _).symm.trans H; rw [hy138]; with_reducible exact H2_) | (have H2_ := (Option.bind_some _ _).symm.trans H; with_reducible exact H2_) | with_reducible exact H | (rw [hy138]; exact H) | exact H
        have Ny138 := Aside0.mk hy138
        clear hy138
        simp only [Option.some.injEq, Prod.mk.injEq] at H
        obtain ⟨rfl, rfl⟩ := H
        go_wp2_with (first | ((with_reducible refine gate_dst (N := 23) rfl ?_); refine Kd.R_lit Kd.string _ 9 ?hg (N := 23) ?hd (xs := ([(⟨#[48]⟩ : ByteArray), (⟨#[49]⟩ : ByteArray), (⟨#[50]⟩ : ByteArray), (⟨#[49, 50]⟩ : ByteArray), (⟨#[48, 46, 53]⟩ : ByteArray), (⟨#[51, 46, 50, 53]⟩ : ByteArray)] : List ByteArray)) (inner := [.string (⟨#[48]⟩ : ByteArray), .string (⟨#[49]⟩ : ByteArray), .string (⟨#[50]⟩ : ByteArray), .string (⟨#[49, 50]⟩ : ByteArray), .string (⟨#[48, 46, 53]⟩ : ByteArray), .string (⟨#[51, 46, 50, 53]⟩ : ByteArray)]) (ok := fun _ => True) (okp := fun _ => True) ?hr ?hp (fun _ hk => hk) trivial (Below.refl _ _) (Nat.le_refl _) (by simp) ?_; (case hd => rfl); (case hg => rfl); (case hr => first | (go_simp; done) | (go_simp; rfl)); (case hp => exact (Reps.one (show Kd.M Kd.string _ _ _ (⟨#[48]⟩ : ByteArray) [.string (⟨#[48]⟩ : ByteArray)] from rfl) (Reps.one (show Kd.M Kd.string _ _ _ (⟨#[49]⟩ : ByteArray) [.string (⟨#[49]⟩ : ByteArray)] from rfl) (Reps.one (show Kd.M Kd.string _ _ _ (⟨#[50]⟩ : ByteArray) [.string (⟨#[50]⟩ : ByteArray)] from rfl) (Reps.one (show Kd.M Kd.string _ _ _ (⟨#[49, 50]⟩ : ByteArray) [.string (⟨#[49, 50]⟩ : ByteArray)] from rfl) (Reps.one (show Kd.M Kd.string _ _ _ (⟨#[48, 46, 53]⟩ : ByteArray) [.string (⟨#[48, 46, 53]⟩ : ByteArray)] from rfl) (Reps.one (show Kd.M Kd.string _ _ _ (⟨#[51, 46, 50, 53]⟩ : ByteArray) [.string (⟨#[51, 46, 50, 53]⟩ : ByteArray)] from rfl) (Reps.none _ _)))))))); intro v133 w18 ho19 hb hg_ hnew_; clear hg_ hnew_; (first | rw [← Ny132.out] at ho19 | (simp only [Int.reduceToNat] at ho19; rw [← Ny132.out] at ho19)); have n0_ := Aside0.mk (Kd.R_lower ho19 (keep_size (w := w) (g := g) (row := none) (zz3_0_ HK.out))); have n1_ := Aside0.mk (IsS47.below (zz3_1_ HI0.out) hb); have n2_ := Aside0.mk (KeepBut.trans (zz3_0_ HK.out) (KeepBut.of_below hb g none) (.inl rfl)); have n3_ := Aside0.mk (below_step (zz3_2_ HB.out HI0.out) hb); clear HI0; clear HK; clear HB; have HO134 := n0_; have HI0 := n1_; have HK := n2_; have HB := n3_; clear n0_ n1_ n2_ n3_; clear hb ho19) | ((with_reducible refine gate_callee (f := 30) rfl ?_); refine goesL_ (some 25) rfl rfl Tryz.func30 (by kernel_rfl) rfl #[.pointer (some ⟨g, 0, none⟩), .int .i64 6] rfl (zz3_3_) ?_; (with_reducible refine (spec_l20Rd_pick.calls kj5 g s0_0 x1001_5 6 t135 t136 w0 _ ?side1 ?side2 A15.out).mono ?_); (case side1 => exact zz3_1_ HI0.out); (case side2 => exact zz3_2_ HB.out HI0.out); rintro e w20 ⟨rfl, hi, hb, hk⟩; refine ⟨_, rfl, ?_⟩; have n0_ := Aside0.mk (Kd.R_mono (Kd.R_keep (IsS47.apart (show IsS47 w0 _ g s0_0 x1001_5 from by repeat (first | (with_reducible first | exact HI0.out | apply IsS47.alloc | apply IsS47.drewN | apply IsS47.drew | apply IsS47.set_1) | exact HI0.out)) (zz3_4_ HO134.out) (by decide)) hk (fun _ h => h.2)) (fun _ h => h.1)); have n1_ := Aside0.mk (KeepBut.trans (zz3_0_ HK.out) hk (.inl rfl)); have n2_ := Aside0.mk (hb); have n3_ := Aside0.mk (hi); clear HO134; clear HK; clear HB; clear HI0; have HO134 := n0_; have HK := n1_; have HB := n2_; have HI0 := n3_; clear n0_ n1_ n2_ n3_; (try clear hb); (try clear hb2); (try clear hk); (try clear hi); obtain ⟨Ao21, co21, eo21⟩ := Kd.R_slice HO134.out; subst eo21; have p137 : 0 ≤ (t135 : Int) := of_decide_eq_true (zz3_5_); have q137 : t135 < (y132.length : Int) := of_decide_eq_true (zz3_5_); obtain ⟨ad137, e137, hx137_0⟩ := Kd.at_string (Kd.R_reads' HO134.out).2.2 t135 p137 q137; cases e137; replace p137 := eq_true p137; replace q137 := eq_true q137) | ((with_reducible refine gate_dst (N := 29) rfl ?_); refine Kd.R_lit k35 _ 35 ?hg (N := 29) ?hd (xs := ([(⟨1, rdOf ByteArray.empty y132 t135, 0⟩ : S35)] : List (S35))) (inner := [.int .i64 1, .string (rdOf ByteArray.empty y132 t135), .int .i64 0]) (ok := fun _ => True) (okp := fun _ => True) ?hr ?hp (fun _ hk => hk) trivial (Below.refl _ _) (Nat.le_refl _) (by simp) ?_; (case hd => rfl); (case hg => rfl); (case hr => first | (go_simp; done) | (go_simp; rfl)); (case hp => exact (Reps.c3 (show Kd.M k35 _ _ _ (⟨1, rdOf ByteArray.empty y132 t135, 0⟩ : S35) [.int .i64 1, .string (rdOf ByteArray.empty y132 t135), .int .i64 0] from (k35_mkM _ _ _ (⟨1, rdOf ByteArray.empty y132 t135, 0⟩ : S35) )) (Reps.none _ _))); intro v139 w22 ho23 hb hg_ hnew_; clear hg_ hnew_; (first | rw [← Ny138.out] at ho23 | (simp only [Int.reduceToNat] at ho23; rw [← Ny138.out] at ho23)); have n0_ := Aside0.mk (Kd.R_below (zz3_4_ HO134.out) hb); have n1_ := Aside0.mk (Kd.R_lower ho23 (keep_size (w := w) (g := g) (row := none) (zz3_0_ HK.out))); have n2_ := Aside0.mk (IsS47.below (zz3_1_ HI0.out) hb); have n3_ := Aside0.mk (KeepBut.trans (zz3_0_ HK.out) (KeepBut.of_below hb g none) (.inl rfl)); have n4_ := Aside0.mk (below_step (zz3_2_ HB.out HI0.out) hb); clear HO134; clear HI0; clear HK; clear HB; have HO134 := n0_; have HO140 := n1_; have HI0 := n2_; have HK := n3_; have HB := n4_; clear n0_ n1_ n2_ n3_ n4_; clear hb ho23))
        go_ret
        exact ⟨_, by first | rfl | (simp [errW_none, errW_some] <;> rfl) | (simp [*, errW_none, errW_some] <;> rfl), zz3_4_ HO140.out, zz3_1_ HI0.out, zz3_2_ HB.out HI0.out, zz3_0_ HK.out⟩
       ·rw [if_neg c17] at H
        exact absurd H (by simp)
      ·rw [if_neg c16] at H
       exact absurd H (by simp)
     ·rw [if_neg c14] at H
      have c14b0 : (x5_5 == 1) = false := beq_eq_false_iff_ne.mpr c14
      have c14b1 : (x5_5 != 1) = true := bne_iff_ne.mpr c14
      by_cases c24 : x5_5 = 2
      ·rw [if_pos c24] at H
       have c24b0 : (x5_5 == 2) = true := beq_iff_eq.mpr c24
       have c24b1 : (x5_5 != 2) = false := bne_eq_false_iff_eq.mpr c24
       clear c24
       obtain ⟨y141, hy141⟩ : ∃ y_ : List ByteArray, y_ = (([(⟨#[]⟩ : ByteArray), (⟨#[97]⟩ : ByteArray), (⟨#[65, 98]⟩ : ByteArray), (⟨#[120, 10, 121]⟩ : ByteArray), (⟨#[34]⟩ : ByteArray), (⟨#[35]⟩ : ByteArray)] : List ByteArray)) := ⟨_, rfl⟩
       replace H : ((spec_l20Rd_pick.f kj5 s0_0 x1001_5 6).bind fun bt144 => (if 0 ≤ bt144.1 then (if bt144.1 < (y141.length : Int) then (some ((([(⟨2, rdOf ByteArray.empty y141 bt144.1, 0⟩ : S35)] : List (S35))), bt144.2)) else (none)) else (none))) = some (r1, r2) := by first | (rw [hy141]; with_reducible exact H) | (have H2_ := (Option.bind_some _ _).symm.trans H; rw [hy141]; with_reducible exact H2_) | (have H2_ := (Option.bind_some _ _).symm.trans H; with_reducible exact H2_) | with_reducible exact H | (rw [hy141]; exact H) | exact H
       have Ny141 := Aside0.mk hy141
       clear hy141
       replace H := Option.bind_eq_some_iff.mp H
       obtain ⟨⟨t144, t145⟩, A250, H⟩ := H
       try dsimp only at H
       have A25 := Aside0.mk A250
       clear A250
       by_cases c26 : 0 ≤ t144
       ·rw [if_pos c26] at H
        have c26b0 : decide (0 ≤ t144) = true := decide_eq_true c26
        clear c26
        by_cases c27 : t144 < (y141.length : Int)
        ·rw [if_pos c27] at H
         have c27b0 : decide (t144 < (y141.length : Int)) = true := decide_eq_true c27
         clear c27
         obtain ⟨y147, hy147⟩ : ∃ y_ : List (S35), y_ = (([(⟨2, rdOf ByteArray.empty y141 t144, 0⟩ : S35)] : List (S35))) := ⟨_, rfl⟩
         replace H : (some (y147, t145)) = some (r1, r2) := by first | (rw [hy147]; with_reducible exact H) | (have H2_ := (Option.bind_some _ _).symm.trans H; rw [hy147]; with_reducible exact H2_) | (have H2_ := (Option.bind_some _ _).symm.trans H; with_reducible exact H2_) | with_reducible exact H | (rw [hy147]; exact H) | exact H
         have Ny147 := Aside0.mk hy147
         clear hy147
         simp only [Option.some.injEq, Prod.mk.injEq] at H
         obtain ⟨rfl, rfl⟩ := H
         go_wp2_with (first | ((with_reducible refine gate_dst (N := 32) rfl ?_); refine Kd.R_lit Kd.string _ 9 ?hg (N := 32) ?hd (xs := ([(⟨#[]⟩ : ByteArray), (⟨#[97]⟩ : ByteArray), (⟨#[65, 98]⟩ : ByteArray), (⟨#[120, 10, 121]⟩ : ByteArray), (⟨#[34]⟩ : ByteArray), (⟨#[35]⟩ : ByteArray)] : List ByteArray)) (inner := [.string (⟨#[]⟩ : ByteArray), .string (⟨#[97]⟩ : ByteArray), .string (⟨#[65, 98]⟩ : ByteArray), .string (⟨#[120, 10, 121]⟩ : ByteArray), .string (⟨#[34]⟩ : ByteArray), .string (⟨#[35]⟩ : ByteArray)]) (ok := fun _ => True) (okp := fun _ => True) ?hr ?hp (fun _ hk => hk) trivial (Below.refl _ _) (Nat.le_refl _) (by simp) ?_; (case hd => rfl); (case hg => rfl); (case hr => first | (go_simp; done) | (go_simp; rfl)); (case hp => exact (Reps.one (show Kd.M Kd.string _ _ _ (⟨#[]⟩ : ByteArray) [.string (⟨#[]⟩ : ByteArray)] from rfl) (Reps.one (show Kd.M Kd.string _ _ _ (⟨#[97]⟩ : ByteArray) [.string (⟨#[97]⟩ : ByteArray)] from rfl) (Reps.one (show Kd.M Kd.string _ _ _ (⟨#[65, 98]⟩ : ByteArray) [.string (⟨#[65, 98]⟩ : ByteArray)] from rfl) (Reps.one (show Kd.M Kd.string _ _ _ (⟨#[120, 10, 121]⟩ : ByteArray) [.string (⟨#[120, 10, 121]⟩ : ByteArray)] from rfl) (Reps.one (show Kd.M Kd.string _ _ _ (⟨#[34]⟩ : ByteArray) [.string (⟨#[34]⟩ : ByteArray)] from rfl) (Reps.one (show Kd.M Kd.string _ _ _ (⟨#[35]⟩ : ByteArray) [.string (⟨#[35]⟩ : ByteArray)] from rfl) (Reps.none _ _)))))))); intro v142 w28 ho29 hb hg_ hnew_; clear hg_ hnew_; (first | rw [← Ny141.out] at ho29 | (simp only [Int.reduceToNat] at ho29; rw [← Ny141.out] at ho29)); have n0_ := Aside0.mk (Kd.R_lower ho29 (keep_size (w := w) (g := g) (row := none) (zz3_0_ HK.out))); have n1_ := Aside0.mk (IsS47.below (zz3_1_ HI0.out) hb); have n2_ := Aside0.mk (KeepBut.trans (zz3_0_ HK.out) (KeepBut.of_below hb g none) (.inl rfl)); have n3_ := Aside0.mk (below_step (zz3_2_ HB.out HI0.out) hb); clear HI0; clear HK; clear HB; have HO143 := n0_; have HI0 := n1_; have HK := n2_; have HB := n3_; clear n0_ n1_ n2_ n3_; clear hb ho29) | ((with_reducible refine gate_callee (f := 30) rfl ?_); refine goesL_ (some 34) rfl rfl Tryz.func30 (by kernel_rfl) rfl #[.pointer (some ⟨g, 0, none⟩), .int .i64 6] rfl (zz3_3_) ?_; (with_reducible refine (spec_l20Rd_pick.calls kj5 g s0_0 x1001_5 6 t144 t145 w0 _ ?side1 ?side2 A25.out).mono ?_); (case side1 => exact zz3_1_ HI0.out); (case side2 => exact zz3_2_ HB.out HI0.out); rintro e w30 ⟨rfl, hi, hb, hk⟩; refine ⟨_, rfl, ?_⟩; have n0_ := Aside0.mk (Kd.R_mono (Kd.R_keep (IsS47.apart (show IsS47 w0 _ g s0_0 x1001_5 from by repeat (first | (with_reducible first | exact HI0.out | apply IsS47.alloc | apply IsS47.drewN | apply IsS47.drew | apply IsS47.set_1) | exact HI0.out)) (zz3_4_ HO143.out) (by decide)) hk (fun _ h => h.2)) (fun _ h => h.1)); have n1_ := Aside0.mk (KeepBut.trans (zz3_0_ HK.out) hk (.inl rfl)); have n2_ := Aside0.mk (hb); have n3_ := Aside0.mk (hi); clear HO143; clear HK; clear HB; clear HI0; have HO143 := n0_; have HK := n1_; have HB := n2_; have HI0 := n3_; clear n0_ n1_ n2_ n3_; (try clear hb); (try clear hb2); (try clear hk); (try clear hi); obtain ⟨Ao31, co31, eo31⟩ := Kd.R_slice HO143.out; subst eo31; have p146 : 0 ≤ (t144 : Int) := of_decide_eq_true (zz3_5_); have q146 : t144 < (y141.length : Int) := of_decide_eq_true (zz3_5_); obtain ⟨ad146, e146, hx146_0⟩ := Kd.at_string (Kd.R_reads' HO143.out).2.2 t144 p146 q146; cases e146; replace p146 := eq_true p146; replace q146 := eq_true q146) | ((with_reducible refine gate_dst (N := 38) rfl ?_); refine Kd.R_lit k35 _ 35 ?hg (N := 38) ?hd (xs := ([(⟨2, rdOf ByteArray.empty y141 t144, 0⟩ : S35)] : List (S35))) (inner := [.int .i64 2, .string (rdOf ByteArray.empty y141 t144), .int .i64 0]) (ok := fun _ => True) (okp := fun _ => True) ?hr ?hp (fun _ hk => hk) trivial (Below.refl _ _) (Nat.le_refl _) (by simp) ?_; (case hd => rfl); (case hg => rfl); (case hr => first | (go_simp; done) | (go_simp; rfl)); (case hp => exact (Reps.c3 (show Kd.M k35 _ _ _ (⟨2, rdOf ByteArray.empty y141 t144, 0⟩ : S35) [.int .i64 2, .string (rdOf ByteArray.empty y141 t144), .int .i64 0] from (k35_mkM _ _ _ (⟨2, rdOf ByteArray.empty y141 t144, 0⟩ : S35) )) (Reps.none _ _))); intro v148 w32 ho33 hb hg_ hnew_; clear hg_ hnew_; (first | rw [← Ny147.out] at ho33 | (simp only [Int.reduceToNat] at ho33; rw [← Ny147.out] at ho33)); have n0_ := Aside0.mk (Kd.R_below (zz3_4_ HO143.out) hb); have n1_ := Aside0.mk (Kd.R_lower ho33 (keep_size (w := w) (g := g) (row := none) (zz3_0_ HK.out))); have n2_ := Aside0.mk (IsS47.below (zz3_1_ HI0.out) hb); have n3_ := Aside0.mk (KeepBut.trans (zz3_0_ HK.out) (KeepBut.of_below hb g none) (.inl rfl)); have n4_ := Aside0.mk (below_step (zz3_2_ HB.out HI0.out) hb); clear HO143; clear HI0; clear HK; clear HB; have HO143 := n0_; have HO149 := n1_; have HI0 := n2_; have HK := n3_; have HB := n4_; clear n0_ n1_ n2_ n3_ n4_; clear hb ho33))
         go_ret
         exact ⟨_, by first | rfl | (simp [errW_none, errW_some] <;> rfl) | (simp [*, errW_none, errW_some] <;> rfl), zz3_4_ HO149.out, zz3_1_ HI0.out, zz3_2_ HB.out HI0.out, zz3_0_ HK.out⟩
        ·rw [if_neg c27] at H
         exact absurd H (by simp)
       ·rw [if_neg c26] at H
        exact absurd H (by simp)
      ·rw [if_neg c24] at H
       have c24b0 : (x5_5 == 2) = false := beq_eq_false_iff_ne.mpr c24
       have c24b1 : (x5_5 != 2) = true := bne_iff_ne.mpr c24
       by_cases c34 : x5_5 = 3
       ·rw [if_pos c34] at H
        have c34b0 : (x5_5 == 3) = true := beq_iff_eq.mpr c34
        have c34b1 : (x5_5 != 3) = false := bne_eq_false_iff_eq.mpr c34
        clear c34
        obtain ⟨y150, hy150⟩ : ∃ y_ : List ByteArray, y_ = (([(⟨#[116, 114, 117, 101]⟩ : ByteArray), (⟨#[102, 97, 108, 115, 101]⟩ : ByteArray)] : List ByteArray)) := ⟨_, rfl⟩
        replace H : ((spec_l20Rd_pick.f kj5 s0_0 x1001_5 2).bind fun bt153 => (if 0 ≤ bt153.1 then (if bt153.1 < (y150.length : Int) then (some ((([(⟨3, rdOf ByteArray.empty y150 bt153.1, 0⟩ : S35)] : List (S35))), bt153.2)) else (none)) else (none))) = some (r1, r2) := by first | (rw [hy150]; with_reducible exact H) | (have H2_ := (Option.bind_some _ _).symm.trans H; rw [hy150]; with_reducible exact H2_) | (have H2_ := (Option.bind_some _ _).symm.trans H; with_reducible exact H2_) | with_reducible exact H | (rw [hy150]; exact H) | exact H
        have Ny150 := Aside0.mk hy150
        clear hy150
        replace H := Option.bind_eq_some_iff.mp H
        obtain ⟨⟨t153, t154⟩, A350, H⟩ := H
        try dsimp only at H
        have A35 := Aside0.mk A350
        clear A350
        by_cases c36 : 0 ≤ t153
        ·rw [if_pos c36] at H
         have c36b0 : decide (0 ≤ t153) = true := decide_eq_true c36
         clear c36
         by_cases c37 : t153 < (y150.length : Int)
         ·rw [if_pos c37] at H
          have c37b0 : decide (t153 < (y150.length : Int)) = true := decide_eq_true c37
          clear c37
          obtain ⟨y156, hy156⟩ : ∃ y_ : List (S35), y_ = (([(⟨3, rdOf ByteArray.empty y150 t153, 0⟩ : S35)] : List (S35))) := ⟨_, rfl⟩
          replace H : (some (y156, t154)) = some (r1, r2) := by first | (rw [hy156]; with_reducible exact H) | (have H2_ := (Option.bind_some _ _).symm.trans H; rw [hy156]; with_reducible exact H2_) | (have H2_ := (Option.bind_some _ _).symm.trans H; with_reducible exact H2_) | with_reducible exact H | (rw [hy156]; exact H) | exact H
          have Ny156 := Aside0.mk hy156
          clear hy156
          simp only [Option.some.injEq, Prod.mk.injEq] at H
          obtain ⟨rfl, rfl⟩ := H
          go_wp2_with (first | ((with_reducible refine gate_dst (N := 41) rfl ?_); refine Kd.R_lit Kd.string _ 9 ?hg (N := 41) ?hd (xs := ([(⟨#[116, 114, 117, 101]⟩ : ByteArray), (⟨#[102, 97, 108, 115, 101]⟩ : ByteArray)] : List ByteArray)) (inner := [.string (⟨#[116, 114, 117, 101]⟩ : ByteArray), .string (⟨#[102, 97, 108, 115, 101]⟩ : ByteArray)]) (ok := fun _ => True) (okp := fun _ => True) ?hr ?hp (fun _ hk => hk) trivial (Below.refl _ _) (Nat.le_refl _) (by simp) ?_; (case hd => rfl); (case hg => rfl); (case hr => first | (go_simp; done) | (go_simp; rfl)); (case hp => exact (Reps.one (show Kd.M Kd.string _ _ _ (⟨#[116, 114, 117, 101]⟩ : ByteArray) [.string (⟨#[116, 114, 117, 101]⟩ : ByteArray)] from rfl) (Reps.one (show Kd.M Kd.string _ _ _ (⟨#[102, 97, 108, 115, 101]⟩ : ByteArray) [.string (⟨#[102, 97, 108, 115, 101]⟩ : ByteArray)] from rfl) (Reps.none _ _)))); intro v151 w38 ho39 hb hg_ hnew_; clear hg_ hnew_; (first | rw [← Ny150.out] at ho39 | (simp only [Int.reduceToNat] at ho39; rw [← Ny150.out] at ho39)); have n0_ := Aside0.mk (Kd.R_lower ho39 (keep_size (w := w) (g := g) (row := none) (zz3_0_ HK.out))); have n1_ := Aside0.mk (IsS47.below (zz3_1_ HI0.out) hb); have n2_ := Aside0.mk (KeepBut.trans (zz3_0_ HK.out) (KeepBut.of_below hb g none) (.inl rfl)); have n3_ := Aside0.mk (below_step (zz3_2_ HB.out HI0.out) hb); clear HI0; clear HK; clear HB; have HO152 := n0_; have HI0 := n1_; have HK := n2_; have HB := n3_; clear n0_ n1_ n2_ n3_; clear hb ho39) | ((with_reducible refine gate_callee (f := 30) rfl ?_); refine goesL_ (some 43) rfl rfl Tryz.func30 (by kernel_rfl) rfl #[.pointer (some ⟨g, 0, none⟩), .int .i64 2] rfl (zz3_3_) ?_; (with_reducible refine (spec_l20Rd_pick.calls kj5 g s0_0 x1001_5 2 t153 t154 w0 _ ?side1 ?side2 A35.out).mono ?_); (case side1 => exact zz3_1_ HI0.out); (case side2 => exact zz3_2_ HB.out HI0.out); rintro e w40 ⟨rfl, hi, hb, hk⟩; refine ⟨_, rfl, ?_⟩; have n0_ := Aside0.mk (Kd.R_mono (Kd.R_keep (IsS47.apart (show IsS47 w0 _ g s0_0 x1001_5 from by repeat (first | (with_reducible first | exact HI0.out | apply IsS47.alloc | apply IsS47.drewN | apply IsS47.drew | apply IsS47.set_1) | exact HI0.out)) (zz3_4_ HO152.out) (by decide)) hk (fun _ h => h.2)) (fun _ h => h.1)); have n1_ := Aside0.mk (KeepBut.trans (zz3_0_ HK.out) hk (.inl rfl)); have n2_ := Aside0.mk (hb); have n3_ := Aside0.mk (hi); clear HO152; clear HK; clear HB; clear HI0; have HO152 := n0_; have HK := n1_; have HB := n2_; have HI0 := n3_; clear n0_ n1_ n2_ n3_; (try clear hb); (try clear hb2); (try clear hk); (try clear hi); obtain ⟨Ao41, co41, eo41⟩ := Kd.R_slice HO152.out; subst eo41; have p155 : 0 ≤ (t153 : Int) := of_decide_eq_true (zz3_5_); have q155 : t153 < (y150.length : Int) := of_decide_eq_true (zz3_5_); obtain ⟨ad155, e155, hx155_0⟩ := Kd.at_string (Kd.R_reads' HO152.out).2.2 t153 p155 q155; cases e155; replace p155 := eq_true p155; replace q155 := eq_true q155) | ((with_reducible refine gate_dst (N := 47) rfl ?_); refine Kd.R_lit k35 _ 35 ?hg (N := 47) ?hd (xs := ([(⟨3, rdOf ByteArray.empty y150 t153, 0⟩ : S35)] : List (S35))) (inner := [.int .i64 3, .string (rdOf ByteArray.empty y150 t153), .int .i64 0]) (ok := fun _ => True) (okp := fun _ => True) ?hr ?hp (fun _ hk => hk) trivial (Below.refl _ _) (Nat.le_refl _) (by simp) ?_; (case hd => rfl); (case hg => rfl); (case hr => first | (go_simp; done) | (go_simp; rfl)); (case hp => exact (Reps.c3 (show Kd.M k35 _ _ _ (⟨3, rdOf ByteArray.empty y150 t153, 0⟩ : S35) [.int .i64 3, .string (rdOf ByteArray.empty y150 t153), .int .i64 0] from (k35_mkM _ _ _ (⟨3, rdOf ByteArray.empty y150 t153, 0⟩ : S35) )) (Reps.none _ _))); intro v157 w42 ho43 hb hg_ hnew_; clear hg_ hnew_; (first | rw [← Ny156.out] at ho43 | (simp only [Int.reduceToNat] at ho43; rw [← Ny156.out] at ho43)); have n0_ := Aside0.mk (Kd.R_below (zz3_4_ HO152.out) hb); have n1_ := Aside0.mk (Kd.R_lower ho43 (keep_size (w := w) (g := g) (row := none) (zz3_0_ HK.out))); have n2_ := Aside0.mk (IsS47.below (zz3_1_ HI0.out) hb); have n3_ := Aside0.mk (KeepBut.trans (zz3_0_ HK.out) (KeepBut.of_below hb g none) (.inl rfl)); have n4_ := Aside0.mk (below_step (zz3_2_ HB.out HI0.out) hb); clear HO152; clear HI0; clear HK; clear HB; have HO152 := n0_; have HO158 := n1_; have HI0 := n2_; have HK := n3_; have HB := n4_; clear n0_ n1_ n2_ n3_ n4_; clear hb ho43))
          go_ret
          exact ⟨_, by first | rfl | (simp [errW_none, errW_some] <;> rfl) | (simp [*, errW_none, errW_some] <;> rfl), zz3_4_ HO158.out, zz3_1_ HI0.out, zz3_2_ HB.out HI0.out, zz3_0_ HK.out⟩
         ·rw [if_neg c37] at H
          exact absurd H (by simp)
        ·rw [if_neg c36] at H
         exact absurd H (by simp)
       ·rw [if_neg c34] at H
        have c34b0 : (x5_5 == 3) = false := beq_eq_false_iff_ne.mpr c34
        have c34b1 : (x5_5 != 3) = true := bne_iff_ne.mpr c34
        by_cases c44 : x5_5 = 4
        ·rw [if_pos c44] at H
         have c44b0 : (x5_5 == 4) = true := beq_iff_eq.mpr c44
         have c44b1 : (x5_5 != 4) = false := bne_eq_false_iff_eq.mpr c44
         clear c44
         replace H := Option.bind_eq_some_iff.mp H
         obtain ⟨⟨t159, t160⟩, A450, H⟩ := H
         try dsimp only at H
         have A45 := Aside0.mk A450
         clear A450
         obtain ⟨y161, hy161⟩ : ∃ y_ : List (S35), y_ = (([(⟨4, t159, 0⟩ : S35)] : List (S35))) := ⟨_, rfl⟩
         replace H : (some (y161, t160)) = some (r1, r2) := by first | (rw [hy161]; with_reducible exact H) | (have H2_ := (Option.bind_some _ _).symm.trans H; rw [hy161]; with_reducible exact H2_) | (have H2_ := (Option.bind_some _ _).symm.trans H; with_reducible exact H2_) | with_reducible exact H | (rw [hy161]; exact H) | exact H
         have Ny161 := Aside0.mk hy161
         clear hy161
         simp only [Option.some.injEq, Prod.mk.injEq] at H
         obtain ⟨rfl, rfl⟩ := H
         go_wp2_with (first | ((with_reducible refine gate_callee (f := 53) rfl ?_); refine goesL_ (some 51) rfl rfl Tryz.func53 (by kernel_rfl) rfl #[.pointer (some ⟨g, 0, none⟩), .int .i64 0] rfl (zz3_3_) ?_; (with_reducible refine (spec_l20Name.calls kj5 g s0_0 x1001_5 0 t159 t160 w0 _ ?side1 ?side2 A45.out).mono ?_); (case side1 => exact zz3_1_ HI0.out); (case side2 => exact zz3_2_ HB.out HI0.out); rintro e w46 ⟨rfl, hi, hb, hk⟩; refine ⟨_, rfl, ?_⟩; have n0_ := Aside0.mk (KeepBut.trans (zz3_0_ HK.out) hk (.inl rfl)); have n1_ := Aside0.mk (hb); have n2_ := Aside0.mk (hi); clear HK; clear HB; clear HI0; have HK := n0_; have HB := n1_; have HI0 := n2_; clear n0_ n1_ n2_; (try clear hb); (try clear hb2); (try clear hk); (try clear hi)) | ((with_reducible refine gate_dst (N := 53) rfl ?_); refine Kd.R_lit k35 _ 35 ?hg (N := 53) ?hd (xs := ([(⟨4, t159, 0⟩ : S35)] : List (S35))) (inner := [.int .i64 4, .string t159, .int .i64 0]) (ok := fun _ => True) (okp := fun _ => True) ?hr ?hp (fun _ hk => hk) trivial (Below.refl _ _) (Nat.le_refl _) (by simp) ?_; (case hd => rfl); (case hg => rfl); (case hr => first | (go_simp; done) | (go_simp; rfl)); (case hp => exact (Reps.c3 (show Kd.M k35 _ _ _ (⟨4, t159, 0⟩ : S35) [.int .i64 4, .string t159, .int .i64 0] from (k35_mkM _ _ _ (⟨4, t159, 0⟩ : S35) )) (Reps.none _ _))); intro v162 w47 ho48 hb hg_ hnew_; clear hg_ hnew_; (first | rw [← Ny161.out] at ho48 | (simp only [Int.reduceToNat] at ho48; rw [← Ny161.out] at ho48)); have n0_ := Aside0.mk (Kd.R_lower ho48 (keep_size (w := w) (g := g) (row := none) (zz3_0_ HK.out))); have n1_ := Aside0.mk (IsS47.below (zz3_1_ HI0.out) hb); have n2_ := Aside0.mk (KeepBut.trans (zz3_0_ HK.out) (KeepBut.of_below hb g none) (.inl rfl)); have n3_ := Aside0.mk (below_step (zz3_2_ HB.out HI0.out) hb); clear HI0; clear HK; clear HB; have HO163 := n0_; have HI0 := n1_; have HK := n2_; have HB := n3_; clear n0_ n1_ n2_ n3_; clear hb ho48))
         go_ret
         exact ⟨_, by first | rfl | (simp [errW_none, errW_some] <;> rfl) | (simp [*, errW_none, errW_some] <;> rfl), zz3_4_ HO163.out, zz3_1_ HI0.out, zz3_2_ HB.out HI0.out, zz3_0_ HK.out⟩
        ·rw [if_neg c44] at H
         have c44b0 : (x5_5 == 4) = false := beq_eq_false_iff_ne.mpr c44
         have c44b1 : (x5_5 != 4) = true := bne_iff_ne.mpr c44
         replace H := Option.bind_eq_some_iff.mp H
         obtain ⟨⟨t164, t165⟩, A490, H⟩ := H
         try dsimp only at H
         have A49 := Aside0.mk A490
         clear A490
         replace H := Option.bind_eq_some_iff.mp H
         obtain ⟨⟨t166, t167⟩, A500, H⟩ := H
         try dsimp only at H
         have A50 := Aside0.mk A500
         clear A500
         obtain ⟨y168, hy168⟩ : ∃ y_ : List Int, y_ = (([0, 0, 0, 0, 0, t164, wrap64 (1 + t166), 1, 2, 3] : List Int)) := ⟨_, rfl⟩
         replace H : (if 0 ≤ x5_5 then (if x5_5 < (y168.length : Int) then (if x5_5 = 6 then ((some (([(⟨#[108, 101, 110, 103, 116, 104]⟩ : ByteArray), (⟨#[117, 112, 112, 101, 114]⟩ : ByteArray), (⟨#[109, 105, 110]⟩ : ByteArray), (⟨#[109, 97, 120]⟩ : ByteArray), (⟨#[102, 105, 114, 115, 116]⟩ : ByteArray), (⟨#[114, 101, 118, 101, 114, 115, 101]⟩ : ByteArray), (⟨#[99, 111, 110, 116, 97, 105, 110, 115]⟩ : ByteArray), (⟨#[106, 111, 105, 110]⟩ : ByteArray), (⟨#[102]⟩ : ByteArray)] : List ByteArray) : List ByteArray)).bind fun y172 => ((spec_l20Rd_pick.f kj5 s0_0 t167 9).bind fun bt175 => (if 0 ≤ bt175.1 then (if bt175.1 < (y172.length : Int) then (spec_l20Cells.j1 kj5 a1 x5_5 (rd y168 x5_5) (rdOf ByteArray.empty y172 bt175.1) s0_0 bt175.2) else (none)) else (none)))) else (if x5_5 = 7 then ((some (([(⟨#[33]⟩ : ByteArray), (⟨#[45]⟩ : ByteArray)] : List ByteArray) : List ByteArray)).bind fun y178 => ((spec_l20Rd_pick.f kj5 s0_0 t167 2).bind fun bt181 => (if 0 ≤ bt181.1 then (if bt181.1 < (y178.length : Int) then (spec_l20Cells.j1 kj5 a1 x5_5 (rd y168 x5_5) (rdOf ByteArray.empty y178 bt181.1) s0_0 bt181.2) else (none)) else (none)))) else (if x5_5 = 8 then ((some (([(⟨#[124, 124]⟩ : ByteArray), (⟨#[38, 38]⟩ : ByteArray), (⟨#[61, 61]⟩ : ByteArray), (⟨#[33, 61]⟩ : ByteArray), (⟨#[60]⟩ : ByteArray), (⟨#[60, 61]⟩ : ByteArray), (⟨#[62]⟩ : ByteArray), (⟨#[62, 61]⟩ : ByteArray), (⟨#[43]⟩ : ByteArray), (⟨#[45]⟩ : ByteArray), (⟨#[42]⟩ : ByteArray), (⟨#[47]⟩ : ByteArray), (⟨#[37]⟩ : ByteArray), (⟨#[38, 38]⟩ : ByteArray), (⟨#[43]⟩ : ByteArray)] : List ByteArray) : List ByteArray)).bind fun y184 => ((spec_l20Rd_pick.f kj5 s0_0 t167 15).bind fun bt187 => (if 0 ≤ bt187.1 then (if bt187.1 < (y184.length : Int) then (spec_l20Cells.j1 kj5 a1 x5_5 (rd y168 x5_5) (rdOf ByteArray.empty y184 bt187.1) s0_0 bt187.2) else (none)) else (none)))) else (spec_l20Cells.j1 kj5 a1 x5_5 (rd y168 x5_5) (⟨#[]⟩ : ByteArray) s0_0 t167)))) else (none)) else (none)) = some (r1, r2) := by first | (rw [hy168]; with_reducible exact H) | (have H2_ := (Option.bind_some _ _).symm.trans H; rw [hy168]; with_reducible exact H2_) | (have H2_ := (Option.bind_some _ _).symm.trans H; with_reducible exact H2_) | with_reducible exact H | (rw [hy168]; exact H) | exact H
         have Ny168 := Aside0.mk hy168
         clear hy168
         by_cases c51 : 0 ≤ x5_5
         ·rw [if_pos c51] at H
          have c51b0 : decide (0 ≤ x5_5) = true := decide_eq_true c51
          clear c51
          by_cases c52 : x5_5 < (y168.length : Int)
          ·rw [if_pos c52] at H
           have c52b0 : decide (x5_5 < (y168.length : Int)) = true := decide_eq_true c52
           clear c52
           have HC53 := Aside0.mk H
           clear H
           go_upto_block 1 with (first | ((with_reducible refine gate_callee (f := 30) rfl ?_); refine goesL_ (some 55) rfl rfl Tryz.func30 (by kernel_rfl) rfl #[.pointer (some ⟨g, 0, none⟩), .int .i64 3] rfl (zz3_3_) ?_; (with_reducible refine (spec_l20Rd_pick.calls kj5 g s0_0 x1001_5 3 t164 t165 w0 _ ?side1 ?side2 A49.out).mono ?_); (case side1 => exact zz3_1_ HI0.out); (case side2 => exact zz3_2_ HB.out HI0.out); rintro e w54 ⟨rfl, hi, hb, hk⟩; refine ⟨_, rfl, ?_⟩; have n0_ := Aside0.mk (KeepBut.trans (zz3_0_ HK.out) hk (.inl rfl)); have n1_ := Aside0.mk (hb); have n2_ := Aside0.mk (hi); clear HK; clear HB; clear HI0; have HK := n0_; have HB := n1_; have HI0 := n2_; clear n0_ n1_ n2_; (try clear hb); (try clear hb2); (try clear hk); (try clear hi)) | ((with_reducible refine gate_callee (f := 30) rfl ?_); refine goesL_ (some 57) rfl rfl Tryz.func30 (by kernel_rfl) rfl #[.pointer (some ⟨g, 0, none⟩), .int .i64 2] rfl (zz3_3_) ?_; (with_reducible refine (spec_l20Rd_pick.calls kj5 g s0_0 t165 2 t166 t167 w0 _ ?side1 ?side2 A50.out).mono ?_); (case side1 => exact zz3_1_ HI0.out); (case side2 => exact zz3_2_ HB.out HI0.out); rintro e w55 ⟨rfl, hi, hb, hk⟩; refine ⟨_, rfl, ?_⟩; have n0_ := Aside0.mk (KeepBut.trans (zz3_0_ HK.out) hk (.inl rfl)); have n1_ := Aside0.mk (hb); have n2_ := Aside0.mk (hi); clear HK; clear HB; clear HI0; have HK := n0_; have HB := n1_; have HI0 := n2_; clear n0_ n1_ n2_; (try clear hb); (try clear hb2); (try clear hk); (try clear hi)) | ((with_reducible refine gate_dst (N := 59) rfl ?_); refine Kd.R_lit (Kd.int .i64) _ 3 ?hg (N := 59) ?hd (xs := ([0, 0, 0, 0, 0, t164, wrap64 (1 + t166), 1, 2, 3] : List Int)) (inner := [.int .i64 0, .int .i64 0, .int .i64 0, .int .i64 0, .int .i64 0, .int .i64 t164, .int .i64 (wrap64 (1 + t166)), .int .i64 1, .int .i64 2, .int .i64 3]) (ok := fun _ => True) (okp := fun _ => True) ?hr ?hp (fun _ hk => hk) trivial (Below.refl _ _) (Nat.le_refl _) (by simp) ?_; (case hd => rfl); (case hg => rfl); (case hr => first | (go_simp; done) | (go_simp; rfl)); (case hp => exact (Reps.one (show Kd.M (Kd.int .i64) _ _ _ 0 [.int .i64 0] from rfl) (Reps.one (show Kd.M (Kd.int .i64) _ _ _ 0 [.int .i64 0] from rfl) (Reps.one (show Kd.M (Kd.int .i64) _ _ _ 0 [.int .i64 0] from rfl) (Reps.one (show Kd.M (Kd.int .i64) _ _ _ 0 [.int .i64 0] from rfl) (Reps.one (show Kd.M (Kd.int .i64) _ _ _ 0 [.int .i64 0] from rfl) (Reps.one (show Kd.M (Kd.int .i64) _ _ _ t164 [.int .i64 t164] from rfl) (Reps.one (show Kd.M (Kd.int .i64) _ _ _ (wrap64 (1 + t166)) [.int .i64 (wrap64 (1 + t166))] from rfl) (Reps.one (show Kd.M (Kd.int .i64) _ _ _ 1 [.int .i64 1] from rfl) (Reps.one (show Kd.M (Kd.int .i64) _ _ _ 2 [.int .i64 2] from rfl) (Reps.one (show Kd.M (Kd.int .i64) _ _ _ 3 [.int .i64 3] from rfl) (Reps.none _ _)))))))))))); intro v169 w56 ho57 hb hg_ hnew_; clear hg_ hnew_; (first | rw [← Ny168.out] at ho57 | (simp only [Int.reduceToNat] at ho57; rw [← Ny168.out] at ho57)); have n0_ := Aside0.mk (Kd.R_lower ho57 (keep_size (w := w) (g := g) (row := none) (zz3_0_ HK.out))); have n1_ := Aside0.mk (IsS47.below (zz3_1_ HI0.out) hb); have n2_ := Aside0.mk (KeepBut.trans (zz3_0_ HK.out) (KeepBut.of_below hb g none) (.inl rfl)); have n3_ := Aside0.mk (below_step (zz3_2_ HB.out HI0.out) hb); clear HI0; clear HK; clear HB; have HO170 := n0_; have HI0 := n1_; have HK := n2_; have HB := n3_; clear n0_ n1_ n2_ n3_; clear hb ho57; obtain ⟨Ao58, co58, eo58⟩ := Kd.R_slice HO170.out; subst eo58; have p171 : 0 ≤ (x5_5 : Int) := of_decide_eq_true (zz3_5_); have q171 : x5_5 < (y168.length : Int) := of_decide_eq_true (zz3_5_); obtain ⟨ad171, e171, hx171_0⟩ := Kd.at_int (Kd.R_reads' HO170.out).2.2 x5_5 p171 q171; cases e171; replace p171 := eq_true p171; replace q171 := eq_true q171))
           (try simp only [Act.put, List.setIfInBounds_toArray, List.set_cons_zero, List.set_cons_succ])
           go_cut [7] (fun v7 wc => ∃ (kq : Nat) (x7_52 : ByteArray) (x1001_52 : Int), v7 = .string x7_52 ∧ Aside0 (spec_l20Cells.j1 kq a1 x5_5 (rd y168 x5_5) x7_52 s0_0 x1001_52 = some (r1, r2)) ∧ Aside0 (kq ≤ kj5) ∧ Aside0 (IsS47 w0 wc g s0_0 x1001_52) ∧ Aside0 (KeepBut w wc g none) ∧ Aside0 (Below w0.heap.size w0 wc))
           case first =>
            have H := HC53.out
            clear HC53
            by_cases c59 : x5_5 = 6
            ·rw [if_pos c59] at H
             have c59b0 : (x5_5 == 6) = true := beq_iff_eq.mpr c59
             have c59b1 : (x5_5 != 6) = false := bne_eq_false_iff_eq.mpr c59
             clear c59
             (first | rw [c59b0] | (simp only [i64_w, i32_w]; rw [c59b0]) | skip)
             obtain ⟨y172, hy172⟩ : ∃ y_ : List ByteArray, y_ = (([(⟨#[108, 101, 110, 103, 116, 104]⟩ : ByteArray), (⟨#[117, 112, 112, 101, 114]⟩ : ByteArray), (⟨#[109, 105, 110]⟩ : ByteArray), (⟨#[109, 97, 120]⟩ : ByteArray), (⟨#[102, 105, 114, 115, 116]⟩ : ByteArray), (⟨#[114, 101, 118, 101, 114, 115, 101]⟩ : ByteArray), (⟨#[99, 111, 110, 116, 97, 105, 110, 115]⟩ : ByteArray), (⟨#[106, 111, 105, 110]⟩ : ByteArray), (⟨#[102]⟩ : ByteArray)] : List ByteArray)) := ⟨_, rfl⟩
             replace H : ((spec_l20Rd_pick.f kj5 s0_0 t167 9).bind fun bt175 => (if 0 ≤ bt175.1 then (if bt175.1 < (y172.length : Int) then (spec_l20Cells.j1 kj5 a1 x5_5 (rd y168 x5_5) (rdOf ByteArray.empty y172 bt175.1) s0_0 bt175.2) else (none)) else (none))) = some (r1, r2) := by first | (rw [hy172]; with_reducible exact H) | (have H2_ := (Option.bind_some _ _).symm.trans H; rw [hy172]; with_reducible exact H2_) | (have H2_ := (Option.bind_some _ _).symm.trans H; with_reducible exact H2_) | with_reducible exact H | (rw [hy172]; exact H) | exact H
             have Ny172 := Aside0.mk hy172
             clear hy172
             replace H := Option.bind_eq_some_iff.mp H
             obtain ⟨⟨t175, t176⟩, A600, H⟩ := H
             try dsimp only at H
             have A60 := Aside0.mk A600
             clear A600
             by_cases c61 : 0 ≤ t175
             ·rw [if_pos c61] at H
              have c61b0 : decide (0 ≤ t175) = true := decide_eq_true c61
              clear c61
              by_cases c62 : t175 < (y172.length : Int)
              ·rw [if_pos c62] at H
               have c62b0 : decide (t175 < (y172.length : Int)) = true := decide_eq_true c62
               clear c62
               have H' := Aside0.mk H
               clear H
               go_wp2_with (first | ((with_reducible refine gate_dst (N := 66) rfl ?_); refine Kd.R_lit Kd.string _ 9 ?hg (N := 66) ?hd (xs := ([(⟨#[108, 101, 110, 103, 116, 104]⟩ : ByteArray), (⟨#[117, 112, 112, 101, 114]⟩ : ByteArray), (⟨#[109, 105, 110]⟩ : ByteArray), (⟨#[109, 97, 120]⟩ : ByteArray), (⟨#[102, 105, 114, 115, 116]⟩ : ByteArray), (⟨#[114, 101, 118, 101, 114, 115, 101]⟩ : ByteArray), (⟨#[99, 111, 110, 116, 97, 105, 110, 115]⟩ : ByteArray), (⟨#[106, 111, 105, 110]⟩ : ByteArray), (⟨#[102]⟩ : ByteArray)] : List ByteArray)) (inner := [.string (⟨#[108, 101, 110, 103, 116, 104]⟩ : ByteArray), .string (⟨#[117, 112, 112, 101, 114]⟩ : ByteArray), .string (⟨#[109, 105, 110]⟩ : ByteArray), .string (⟨#[109, 97, 120]⟩ : ByteArray), .string (⟨#[102, 105, 114, 115, 116]⟩ : ByteArray), .string (⟨#[114, 101, 118, 101, 114, 115, 101]⟩ : ByteArray), .string (⟨#[99, 111, 110, 116, 97, 105, 110, 115]⟩ : ByteArray), .string (⟨#[106, 111, 105, 110]⟩ : ByteArray), .string (⟨#[102]⟩ : ByteArray)]) (ok := fun _ => True) (okp := fun _ => True) ?hr ?hp (fun _ hk => hk) trivial (Below.refl _ _) (Nat.le_refl _) (by simp) ?_; (case hd => rfl); (case hg => rfl); (case hr => first | (go_simp; done) | (go_simp; rfl)); (case hp => exact (Reps.one (show Kd.M Kd.string _ _ _ (⟨#[108, 101, 110, 103, 116, 104]⟩ : ByteArray) [.string (⟨#[108, 101, 110, 103, 116, 104]⟩ : ByteArray)] from rfl) (Reps.one (show Kd.M Kd.string _ _ _ (⟨#[117, 112, 112, 101, 114]⟩ : ByteArray) [.string (⟨#[117, 112, 112, 101, 114]⟩ : ByteArray)] from rfl) (Reps.one (show Kd.M Kd.string _ _ _ (⟨#[109, 105, 110]⟩ : ByteArray) [.string (⟨#[109, 105, 110]⟩ : ByteArray)] from rfl) (Reps.one (show Kd.M Kd.string _ _ _ (⟨#[109, 97, 120]⟩ : ByteArray) [.string (⟨#[109, 97, 120]⟩ : ByteArray)] from rfl) (Reps.one (show Kd.M Kd.string _ _ _ (⟨#[102, 105, 114, 115, 116]⟩ : ByteArray) [.string (⟨#[102, 105, 114, 115, 116]⟩ : ByteArray)] from rfl) (Reps.one (show Kd.M Kd.string _ _ _ (⟨#[114, 101, 118, 101, 114, 115, 101]⟩ : ByteArray) [.string (⟨#[114, 101, 118, 101, 114, 115, 101]⟩ : ByteArray)] from rfl) (Reps.one (show Kd.M Kd.string _ _ _ (⟨#[99, 111, 110, 116, 97, 105, 110, 115]⟩ : ByteArray) [.string (⟨#[99, 111, 110, 116, 97, 105, 110, 115]⟩ : ByteArray)] from rfl) (Reps.one (show Kd.M Kd.string _ _ _ (⟨#[106, 111, 105, 110]⟩ : ByteArray) [.string (⟨#[106, 111, 105, 110]⟩ : ByteArray)] from rfl) (Reps.one (show Kd.M Kd.string _ _ _ (⟨#[102]⟩ : ByteArray) [.string (⟨#[102]⟩ : ByteArray)] from rfl) (Reps.none _ _))))))))))); intro v173 w63 ho64 hb hg_ hnew_; clear hg_ hnew_; (first | rw [← Ny172.out] at ho64 | (simp only [Int.reduceToNat] at ho64; rw [← Ny172.out] at ho64)); have n0_ := Aside0.mk (Kd.R_below (zz3_4_ HO170.out) hb); have n1_ := Aside0.mk (Kd.R_lower ho64 (keep_size (w := w) (g := g) (row := none) (zz3_0_ HK.out))); have n2_ := Aside0.mk (IsS47.below (zz3_1_ HI0.out) hb); have n3_ := Aside0.mk (KeepBut.trans (zz3_0_ HK.out) (KeepBut.of_below hb g none) (.inl rfl)); have n4_ := Aside0.mk (below_step (zz3_2_ HB.out HI0.out) hb); clear HO170; clear HI0; clear HK; clear HB; have HO170 := n0_; have HO174 := n1_; have HI0 := n2_; have HK := n3_; have HB := n4_; clear n0_ n1_ n2_ n3_ n4_; clear hb ho64) | ((with_reducible refine gate_callee (f := 30) rfl ?_); refine goesL_ (some 68) rfl rfl Tryz.func30 (by kernel_rfl) rfl #[.pointer (some ⟨g, 0, none⟩), .int .i64 9] rfl (zz3_3_) ?_; (with_reducible refine (spec_l20Rd_pick.calls kj5 g s0_0 t167 9 t175 t176 w0 _ ?side1 ?side2 A60.out).mono ?_); (case side1 => exact zz3_1_ HI0.out); (case side2 => exact zz3_2_ HB.out HI0.out); rintro e w65 ⟨rfl, hi, hb, hk⟩; refine ⟨_, rfl, ?_⟩; have n0_ := Aside0.mk (Kd.R_mono (Kd.R_keep (IsS47.apart (show IsS47 w0 _ g s0_0 t167 from by repeat (first | (with_reducible first | exact HI0.out | apply IsS47.alloc | apply IsS47.drewN | apply IsS47.drew | apply IsS47.set_1) | exact HI0.out)) (zz3_4_ HO170.out) (by decide)) hk (fun _ h => h.2)) (fun _ h => h.1)); have n1_ := Aside0.mk (Kd.R_mono (Kd.R_keep (IsS47.apart (show IsS47 w0 _ g s0_0 t167 from by repeat (first | (with_reducible first | exact HI0.out | apply IsS47.alloc | apply IsS47.drewN | apply IsS47.drew | apply IsS47.set_1) | exact HI0.out)) (zz3_4_ HO174.out) (by decide)) hk (fun _ h => h.2)) (fun _ h => h.1)); have n2_ := Aside0.mk (KeepBut.trans (zz3_0_ HK.out) hk (.inl rfl)); have n3_ := Aside0.mk (hb); have n4_ := Aside0.mk (hi); clear HO170; clear HO174; clear HK; clear HB; clear HI0; have HO170 := n0_; have HO174 := n1_; have HK := n2_; have HB := n3_; have HI0 := n4_; clear n0_ n1_ n2_ n3_ n4_; (try clear hb); (try clear hb2); (try clear hk); (try clear hi); obtain ⟨Ao66, co66, eo66⟩ := Kd.R_slice HO174.out; subst eo66; have p177 : 0 ≤ (t175 : Int) := of_decide_eq_true (zz3_5_); have q177 : t175 < (y172.length : Int) := of_decide_eq_true (zz3_5_); obtain ⟨ad177, e177, hx177_0⟩ := Kd.at_string (Kd.R_reads' HO174.out).2.2 t175 p177 q177; cases e177; replace p177 := eq_true p177; replace q177 := eq_true q177))
               go_meet
               case rel => exact ⟨_, (rdOf ByteArray.empty y172 t175), (t176), (by first | rfl | (simp; done) | (simp [*]; done)), H', ⟨by have := HJ5.out; first | omega | exact Nat.le_refl _⟩, ⟨zz3_1_ HI0.out⟩, ⟨zz3_0_ HK.out⟩, ⟨zz3_2_ HB.out HI0.out⟩⟩
              ·rw [if_neg c62] at H
               exact absurd H (by simp)
             ·rw [if_neg c61] at H
              exact absurd H (by simp)
            ·rw [if_neg c59] at H
             have c59b0 : (x5_5 == 6) = false := beq_eq_false_iff_ne.mpr c59
             have c59b1 : (x5_5 != 6) = true := bne_iff_ne.mpr c59
             (first | rw [c59b0] | (simp only [i64_w, i32_w]; rw [c59b0]) | skip)
             by_cases c67 : x5_5 = 7
             ·rw [if_pos c67] at H
              have c67b0 : (x5_5 == 7) = true := beq_iff_eq.mpr c67
              have c67b1 : (x5_5 != 7) = false := bne_eq_false_iff_eq.mpr c67
              clear c67
              obtain ⟨y178, hy178⟩ : ∃ y_ : List ByteArray, y_ = (([(⟨#[33]⟩ : ByteArray), (⟨#[45]⟩ : ByteArray)] : List ByteArray)) := ⟨_, rfl⟩
              replace H : ((spec_l20Rd_pick.f kj5 s0_0 t167 2).bind fun bt181 => (if 0 ≤ bt181.1 then (if bt181.1 < (y178.length : Int) then (spec_l20Cells.j1 kj5 a1 x5_5 (rd y168 x5_5) (rdOf ByteArray.empty y178 bt181.1) s0_0 bt181.2) else (none)) else (none))) = some (r1, r2) := by first | (rw [hy178]; with_reducible exact H) | (have H2_ := (Option.bind_some _ _).symm.trans H; rw [hy178]; with_reducible exact H2_) | (have H2_ := (Option.bind_some _ _).symm.trans H; with_reducible exact H2_) | with_reducible exact H | (rw [hy178]; exact H) | exact H
              have Ny178 := Aside0.mk hy178
              clear hy178
              replace H := Option.bind_eq_some_iff.mp H
              obtain ⟨⟨t181, t182⟩, A680, H⟩ := H
              try dsimp only at H
              have A68 := Aside0.mk A680
              clear A680
              by_cases c69 : 0 ≤ t181
              ·rw [if_pos c69] at H
               have c69b0 : decide (0 ≤ t181) = true := decide_eq_true c69
               clear c69
               by_cases c70 : t181 < (y178.length : Int)
               ·rw [if_pos c70] at H
                have c70b0 : decide (t181 < (y178.length : Int)) = true := decide_eq_true c70
                clear c70
                have H' := Aside0.mk H
                clear H
                go_wp2_with (first | ((with_reducible refine gate_dst (N := 73) rfl ?_); refine Kd.R_lit Kd.string _ 9 ?hg (N := 73) ?hd (xs := ([(⟨#[33]⟩ : ByteArray), (⟨#[45]⟩ : ByteArray)] : List ByteArray)) (inner := [.string (⟨#[33]⟩ : ByteArray), .string (⟨#[45]⟩ : ByteArray)]) (ok := fun _ => True) (okp := fun _ => True) ?hr ?hp (fun _ hk => hk) trivial (Below.refl _ _) (Nat.le_refl _) (by simp) ?_; (case hd => rfl); (case hg => rfl); (case hr => first | (go_simp; done) | (go_simp; rfl)); (case hp => exact (Reps.one (show Kd.M Kd.string _ _ _ (⟨#[33]⟩ : ByteArray) [.string (⟨#[33]⟩ : ByteArray)] from rfl) (Reps.one (show Kd.M Kd.string _ _ _ (⟨#[45]⟩ : ByteArray) [.string (⟨#[45]⟩ : ByteArray)] from rfl) (Reps.none _ _)))); intro v179 w71 ho72 hb hg_ hnew_; clear hg_ hnew_; (first | rw [← Ny178.out] at ho72 | (simp only [Int.reduceToNat] at ho72; rw [← Ny178.out] at ho72)); have n0_ := Aside0.mk (Kd.R_below (zz3_4_ HO170.out) hb); have n1_ := Aside0.mk (Kd.R_lower ho72 (keep_size (w := w) (g := g) (row := none) (zz3_0_ HK.out))); have n2_ := Aside0.mk (IsS47.below (zz3_1_ HI0.out) hb); have n3_ := Aside0.mk (KeepBut.trans (zz3_0_ HK.out) (KeepBut.of_below hb g none) (.inl rfl)); have n4_ := Aside0.mk (below_step (zz3_2_ HB.out HI0.out) hb); clear HO170; clear HI0; clear HK; clear HB; have HO170 := n0_; have HO180 := n1_; have HI0 := n2_; have HK := n3_; have HB := n4_; clear n0_ n1_ n2_ n3_ n4_; clear hb ho72) | ((with_reducible refine gate_callee (f := 30) rfl ?_); refine goesL_ (some 75) rfl rfl Tryz.func30 (by kernel_rfl) rfl #[.pointer (some ⟨g, 0, none⟩), .int .i64 2] rfl (zz3_3_) ?_; (with_reducible refine (spec_l20Rd_pick.calls kj5 g s0_0 t167 2 t181 t182 w0 _ ?side1 ?side2 A68.out).mono ?_); (case side1 => exact zz3_1_ HI0.out); (case side2 => exact zz3_2_ HB.out HI0.out); rintro e w73 ⟨rfl, hi, hb, hk⟩; refine ⟨_, rfl, ?_⟩; have n0_ := Aside0.mk (Kd.R_mono (Kd.R_keep (IsS47.apart (show IsS47 w0 _ g s0_0 t167 from by repeat (first | (with_reducible first | exact HI0.out | apply IsS47.alloc | apply IsS47.drewN | apply IsS47.drew | apply IsS47.set_1) | exact HI0.out)) (zz3_4_ HO170.out) (by decide)) hk (fun _ h => h.2)) (fun _ h => h.1)); have n1_ := Aside0.mk (Kd.R_mono (Kd.R_keep (IsS47.apart (show IsS47 w0 _ g s0_0 t167 from by repeat (first | (with_reducible first | exact HI0.out | apply IsS47.alloc | apply IsS47.drewN | apply IsS47.drew | apply IsS47.set_1) | exact HI0.out)) (zz3_4_ HO180.out) (by decide)) hk (fun _ h => h.2)) (fun _ h => h.1)); have n2_ := Aside0.mk (KeepBut.trans (zz3_0_ HK.out) hk (.inl rfl)); have n3_ := Aside0.mk (hb); have n4_ := Aside0.mk (hi); clear HO170; clear HO180; clear HK; clear HB; clear HI0; have HO170 := n0_; have HO180 := n1_; have HK := n2_; have HB := n3_; have HI0 := n4_; clear n0_ n1_ n2_ n3_ n4_; (try clear hb); (try clear hb2); (try clear hk); (try clear hi); obtain ⟨Ao74, co74, eo74⟩ := Kd.R_slice HO180.out; subst eo74; have p183 : 0 ≤ (t181 : Int) := of_decide_eq_true (zz3_5_); have q183 : t181 < (y178.length : Int) := of_decide_eq_true (zz3_5_); obtain ⟨ad183, e183, hx183_0⟩ := Kd.at_string (Kd.R_reads' HO180.out).2.2 t181 p183 q183; cases e183; replace p183 := eq_true p183; replace q183 := eq_true q183))
                go_meet
                case rel => exact ⟨_, (rdOf ByteArray.empty y178 t181), (t182), (by first | rfl | (simp; done) | (simp [*]; done)), H', ⟨by have := HJ5.out; first | omega | exact Nat.le_refl _⟩, ⟨zz3_1_ HI0.out⟩, ⟨zz3_0_ HK.out⟩, ⟨zz3_2_ HB.out HI0.out⟩⟩
               ·rw [if_neg c70] at H
                exact absurd H (by simp)
              ·rw [if_neg c69] at H
               exact absurd H (by simp)
             ·rw [if_neg c67] at H
              have c67b0 : (x5_5 == 7) = false := beq_eq_false_iff_ne.mpr c67
              have c67b1 : (x5_5 != 7) = true := bne_iff_ne.mpr c67
              by_cases c75 : x5_5 = 8
              ·rw [if_pos c75] at H
               have c75b0 : (x5_5 == 8) = true := beq_iff_eq.mpr c75
               have c75b1 : (x5_5 != 8) = false := bne_eq_false_iff_eq.mpr c75
               clear c75
               obtain ⟨y184, hy184⟩ : ∃ y_ : List ByteArray, y_ = (([(⟨#[124, 124]⟩ : ByteArray), (⟨#[38, 38]⟩ : ByteArray), (⟨#[61, 61]⟩ : ByteArray), (⟨#[33, 61]⟩ : ByteArray), (⟨#[60]⟩ : ByteArray), (⟨#[60, 61]⟩ : ByteArray), (⟨#[62]⟩ : ByteArray), (⟨#[62, 61]⟩ : ByteArray), (⟨#[43]⟩ : ByteArray), (⟨#[45]⟩ : ByteArray), (⟨#[42]⟩ : ByteArray), (⟨#[47]⟩ : ByteArray), (⟨#[37]⟩ : ByteArray), (⟨#[38, 38]⟩ : ByteArray), (⟨#[43]⟩ : ByteArray)] : List ByteArray)) := ⟨_, rfl⟩
               replace H : ((spec_l20Rd_pick.f kj5 s0_0 t167 15).bind fun bt187 => (if 0 ≤ bt187.1 then (if bt187.1 < (y184.length : Int) then (spec_l20Cells.j1 kj5 a1 x5_5 (rd y168 x5_5) (rdOf ByteArray.empty y184 bt187.1) s0_0 bt187.2) else (none)) else (none))) = some (r1, r2) := by first | (rw [hy184]; with_reducible exact H) | (have H2_ := (Option.bind_some _ _).symm.trans H; rw [hy184]; with_reducible exact H2_) | (have H2_ := (Option.bind_some _ _).symm.trans H; with_reducible exact H2_) | with_reducible exact H | (rw [hy184]; exact H) | exact H
               have Ny184 := Aside0.mk hy184
               clear hy184
               replace H := Option.bind_eq_some_iff.mp H
               obtain ⟨⟨t187, t188⟩, A760, H⟩ := H
               try dsimp only at H
               have A76 := Aside0.mk A760
               clear A760
               by_cases c77 : 0 ≤ t187
               ·rw [if_pos c77] at H
                have c77b0 : decide (0 ≤ t187) = true := decide_eq_true c77
                clear c77
                by_cases c78 : t187 < (y184.length : Int)
                ·rw [if_pos c78] at H
                 have c78b0 : decide (t187 < (y184.length : Int)) = true := decide_eq_true c78
                 clear c78
                 have H' := Aside0.mk H
                 clear H
                 go_wp2_with (first | ((with_reducible refine gate_dst (N := 80) rfl ?_); refine Kd.R_lit Kd.string _ 9 ?hg (N := 80) ?hd (xs := ([(⟨#[124, 124]⟩ : ByteArray), (⟨#[38, 38]⟩ : ByteArray), (⟨#[61, 61]⟩ : ByteArray), (⟨#[33, 61]⟩ : ByteArray), (⟨#[60]⟩ : ByteArray), (⟨#[60, 61]⟩ : ByteArray), (⟨#[62]⟩ : ByteArray), (⟨#[62, 61]⟩ : ByteArray), (⟨#[43]⟩ : ByteArray), (⟨#[45]⟩ : ByteArray), (⟨#[42]⟩ : ByteArray), (⟨#[47]⟩ : ByteArray), (⟨#[37]⟩ : ByteArray), (⟨#[38, 38]⟩ : ByteArray), (⟨#[43]⟩ : ByteArray)] : List ByteArray)) (inner := [.string (⟨#[124, 124]⟩ : ByteArray), .string (⟨#[38, 38]⟩ : ByteArray), .string (⟨#[61, 61]⟩ : ByteArray), .string (⟨#[33, 61]⟩ : ByteArray), .string (⟨#[60]⟩ : ByteArray), .string (⟨#[60, 61]⟩ : ByteArray), .string (⟨#[62]⟩ : ByteArray), .string (⟨#[62, 61]⟩ : ByteArray), .string (⟨#[43]⟩ : ByteArray), .string (⟨#[45]⟩ : ByteArray), .string (⟨#[42]⟩ : ByteArray), .string (⟨#[47]⟩ : ByteArray), .string (⟨#[37]⟩ : ByteArray), .string (⟨#[38, 38]⟩ : ByteArray), .string (⟨#[43]⟩ : ByteArray)]) (ok := fun _ => True) (okp := fun _ => True) ?hr ?hp (fun _ hk => hk) trivial (Below.refl _ _) (Nat.le_refl _) (by simp) ?_; (case hd => rfl); (case hg => rfl); (case hr => first | (go_simp; done) | (go_simp; rfl)); (case hp => exact (Reps.one (show Kd.M Kd.string _ _ _ (⟨#[124, 124]⟩ : ByteArray) [.string (⟨#[124, 124]⟩ : ByteArray)] from rfl) (Reps.one (show Kd.M Kd.string _ _ _ (⟨#[38, 38]⟩ : ByteArray) [.string (⟨#[38, 38]⟩ : ByteArray)] from rfl) (Reps.one (show Kd.M Kd.string _ _ _ (⟨#[61, 61]⟩ : ByteArray) [.string (⟨#[61, 61]⟩ : ByteArray)] from rfl) (Reps.one (show Kd.M Kd.string _ _ _ (⟨#[33, 61]⟩ : ByteArray) [.string (⟨#[33, 61]⟩ : ByteArray)] from rfl) (Reps.one (show Kd.M Kd.string _ _ _ (⟨#[60]⟩ : ByteArray) [.string (⟨#[60]⟩ : ByteArray)] from rfl) (Reps.one (show Kd.M Kd.string _ _ _ (⟨#[60, 61]⟩ : ByteArray) [.string (⟨#[60, 61]⟩ : ByteArray)] from rfl) (Reps.one (show Kd.M Kd.string _ _ _ (⟨#[62]⟩ : ByteArray) [.string (⟨#[62]⟩ : ByteArray)] from rfl) (Reps.one (show Kd.M Kd.string _ _ _ (⟨#[62, 61]⟩ : ByteArray) [.string (⟨#[62, 61]⟩ : ByteArray)] from rfl) (Reps.one (show Kd.M Kd.string _ _ _ (⟨#[43]⟩ : ByteArray) [.string (⟨#[43]⟩ : ByteArray)] from rfl) (Reps.one (show Kd.M Kd.string _ _ _ (⟨#[45]⟩ : ByteArray) [.string (⟨#[45]⟩ : ByteArray)] from rfl) (Reps.one (show Kd.M Kd.string _ _ _ (⟨#[42]⟩ : ByteArray) [.string (⟨#[42]⟩ : ByteArray)] from rfl) (Reps.one (show Kd.M Kd.string _ _ _ (⟨#[47]⟩ : ByteArray) [.string (⟨#[47]⟩ : ByteArray)] from rfl) (Reps.one (show Kd.M Kd.string _ _ _ (⟨#[37]⟩ : ByteArray) [.string (⟨#[37]⟩ : ByteArray)] from rfl) (Reps.one (show Kd.M Kd.string _ _ _ (⟨#[38, 38]⟩ : ByteArray) [.string (⟨#[38, 38]⟩ : ByteArray)] from rfl) (Reps.one (show Kd.M Kd.string _ _ _ (⟨#[43]⟩ : ByteArray) [.string (⟨#[43]⟩ : ByteArray)] from rfl) (Reps.none _ _))))))))))))))))); intro v185 w79 ho80 hb hg_ hnew_; clear hg_ hnew_; (first | rw [← Ny184.out] at ho80 | (simp only [Int.reduceToNat] at ho80; rw [← Ny184.out] at ho80)); have n0_ := Aside0.mk (Kd.R_below (zz3_4_ HO170.out) hb); have n1_ := Aside0.mk (Kd.R_lower ho80 (keep_size (w := w) (g := g) (row := none) (zz3_0_ HK.out))); have n2_ := Aside0.mk (IsS47.below (zz3_1_ HI0.out) hb); have n3_ := Aside0.mk (KeepBut.trans (zz3_0_ HK.out) (KeepBut.of_below hb g none) (.inl rfl)); have n4_ := Aside0.mk (below_step (zz3_2_ HB.out HI0.out) hb); clear HO170; clear HI0; clear HK; clear HB; have HO170 := n0_; have HO186 := n1_; have HI0 := n2_; have HK := n3_; have HB := n4_; clear n0_ n1_ n2_ n3_ n4_; clear hb ho80) | ((with_reducible refine gate_callee (f := 30) rfl ?_); refine goesL_ (some 82) rfl rfl Tryz.func30 (by kernel_rfl) rfl #[.pointer (some ⟨g, 0, none⟩), .int .i64 15] rfl (zz3_3_) ?_; (with_reducible refine (spec_l20Rd_pick.calls kj5 g s0_0 t167 15 t187 t188 w0 _ ?side1 ?side2 A76.out).mono ?_); (case side1 => exact zz3_1_ HI0.out); (case side2 => exact zz3_2_ HB.out HI0.out); rintro e w81 ⟨rfl, hi, hb, hk⟩; refine ⟨_, rfl, ?_⟩; have n0_ := Aside0.mk (Kd.R_mono (Kd.R_keep (IsS47.apart (show IsS47 w0 _ g s0_0 t167 from by repeat (first | (with_reducible first | exact HI0.out | apply IsS47.alloc | apply IsS47.drewN | apply IsS47.drew | apply IsS47.set_1) | exact HI0.out)) (zz3_4_ HO170.out) (by decide)) hk (fun _ h => h.2)) (fun _ h => h.1)); have n1_ := Aside0.mk (Kd.R_mono (Kd.R_keep (IsS47.apart (show IsS47 w0 _ g s0_0 t167 from by repeat (first | (with_reducible first | exact HI0.out | apply IsS47.alloc | apply IsS47.drewN | apply IsS47.drew | apply IsS47.set_1) | exact HI0.out)) (zz3_4_ HO186.out) (by decide)) hk (fun _ h => h.2)) (fun _ h => h.1)); have n2_ := Aside0.mk (KeepBut.trans (zz3_0_ HK.out) hk (.inl rfl)); have n3_ := Aside0.mk (hb); have n4_ := Aside0.mk (hi); clear HO170; clear HO186; clear HK; clear HB; clear HI0; have HO170 := n0_; have HO186 := n1_; have HK := n2_; have HB := n3_; have HI0 := n4_; clear n0_ n1_ n2_ n3_ n4_; (try clear hb); (try clear hb2); (try clear hk); (try clear hi); obtain ⟨Ao82, co82, eo82⟩ := Kd.R_slice HO186.out; subst eo82; have p189 : 0 ≤ (t187 : Int) := of_decide_eq_true (zz3_5_); have q189 : t187 < (y184.length : Int) := of_decide_eq_true (zz3_5_); obtain ⟨ad189, e189, hx189_0⟩ := Kd.at_string (Kd.R_reads' HO186.out).2.2 t187 p189 q189; cases e189; replace p189 := eq_true p189; replace q189 := eq_true q189))
                 go_meet
                 case rel => exact ⟨_, (rdOf ByteArray.empty y184 t187), (t188), (by first | rfl | (simp; done) | (simp [*]; done)), H', ⟨by have := HJ5.out; first | omega | exact Nat.le_refl _⟩, ⟨zz3_1_ HI0.out⟩, ⟨zz3_0_ HK.out⟩, ⟨zz3_2_ HB.out HI0.out⟩⟩
                ·rw [if_neg c78] at H
                 exact absurd H (by simp)
               ·rw [if_neg c77] at H
                exact absurd H (by simp)
              ·rw [if_neg c75] at H
               have c75b0 : (x5_5 == 8) = false := beq_eq_false_iff_ne.mpr c75
               have c75b1 : (x5_5 != 8) = true := bne_iff_ne.mpr c75
               have H' := Aside0.mk H
               clear H
               go_wp2
               go_meet
               case rel => exact ⟨_, ((⟨#[]⟩ : ByteArray)), (t167), (by first | rfl | (simp; done) | (simp [*]; done)), H', ⟨by have := HJ5.out; first | omega | exact Nat.le_refl _⟩, ⟨zz3_1_ HI0.out⟩, ⟨zz3_0_ HK.out⟩, ⟨zz3_2_ HB.out HI0.out⟩⟩
           case rest =>
            clear HC53
            try clear c1
            try clear p1
            try clear q1
            try clear hx1
            try clear c2
            try clear p2
            try clear c3
            try clear c4
            try clear c4b0
            try clear c5
            try clear c5b0
            try clear c6
            try clear p6
            try clear c7
            try clear c11
            try clear c11b0
            try clear p12
            try clear q12
            try clear hx12
            try clear p13
            try clear q13
            try clear hx13
            try clear c14
            try clear c14b0
            try clear c14b1
            try clear p14
            try clear q14
            try clear hx14
            try clear p15
            try clear q15
            try clear hx15
            try clear c16
            try clear c16b0
            try clear c17
            try clear c17b0
            try clear p17
            try clear q17
            try clear hx17
            try clear p18
            try clear q18
            try clear hx18
            try clear c24
            try clear c24b0
            try clear c24b1
            try clear c26
            try clear c26b0
            try clear c27
            try clear c27b0
            try clear c30
            try clear c34
            try clear c34b0
            try clear c34b1
            try clear c35
            try clear c36
            try clear c36b0
            try clear c37
            try clear c37b0
            try clear c44
            try clear c44b0
            try clear c44b1
            try clear c51
            try clear c51b0
            try clear c52
            try clear c52b0
            try clear c53
            try clear c59
            try clear c59b0
            try clear c59b1
            try clear c61
            try clear c61b0
            try clear c62
            try clear c62b0
            try clear p64
            try clear c67
            try clear c67b0
            try clear c67b1
            try clear c69
            try clear c69b0
            try clear c70
            try clear c70b0
            try clear c75
            try clear c75b0
            try clear c75b1
            try clear c77
            try clear c77b0
            try clear c78
            try clear c78b0
            try clear hx129_0
            try clear hx137_0
            try clear hx146_0
            try clear hx155_0
            try clear hx171_0
            try clear hx177_0
            try clear hx183_0
            try clear hx189_0
            try clear p1
            try clear p12
            try clear p129
            try clear p137
            try clear p146
            try clear p155
            try clear p171
            try clear p177
            try clear p183
            try clear p189
            try clear p2
            try clear p6
            try clear q1
            try clear q12
            try clear q129
            try clear q137
            try clear q146
            try clear q155
            try clear q171
            try clear q177
            try clear q183
            try clear q189
            obtain ⟨kq, x7_52, x1001_52, rfl, HA, HJ52, HI0, HK, HB⟩ := hcut
            cases kq with
            | zero => exact absurd HA.out (by simp [spec_l20Cells.j1])
            | succ kj52 =>
             have H := HA.out
             clear HA
             simp only [spec_l20Cells.j1] at H
             obtain ⟨y190, hy190⟩ : ∃ y_ : List (S35), y_ = (([(⟨x5_5, x7_52, (rd y168 x5_5)⟩ : S35)] : List (S35))) := ⟨_, rfl⟩
             replace H : (spec_l20Cells.l0 kj52 a1 (rd y168 x5_5) y190 0 s0_0 x1001_52) = some (r1, r2) := by first | (rw [hy190]; with_reducible exact H) | (have H2_ := (Option.bind_some _ _).symm.trans H; rw [hy190]; with_reducible exact H2_) | (have H2_ := (Option.bind_some _ _).symm.trans H; with_reducible exact H2_) | with_reducible exact H | (rw [hy190]; exact H) | exact H
             have Ny190 := Aside0.mk hy190
             clear hy190
             have H' := Aside0.mk H
             clear H
             go_wp2_with (first | ((with_reducible refine gate_dst (N := 89) rfl ?_); refine Kd.R_lit k35 _ 35 ?hg (N := 89) ?hd (xs := ([(⟨x5_5, x7_52, (rd y168 x5_5)⟩ : S35)] : List (S35))) (inner := [.int .i64 x5_5, .string x7_52, .int .i64 (rd y168 x5_5)]) (ok := fun _ => True) (okp := fun _ => True) ?hr ?hp (fun _ hk => hk) trivial (Below.refl _ _) (Nat.le_refl _) (by simp) ?_; (case hd => rfl); (case hg => rfl); (case hr => first | (go_simp; done) | (go_simp; rfl)); (case hp => exact (Reps.c3 (show Kd.M k35 _ _ _ (⟨x5_5, x7_52, (rd y168 x5_5)⟩ : S35) [.int .i64 x5_5, .string x7_52, .int .i64 (rd y168 x5_5)] from (k35_mkM _ _ _ (⟨x5_5, x7_52, (rd y168 x5_5)⟩ : S35) )) (Reps.none _ _))); intro v191 w83 ho84 hb hg_ hnew_; clear hg_ hnew_; (first | rw [← Ny190.out] at ho84 | (simp only [Int.reduceToNat] at ho84; rw [← Ny190.out] at ho84)); have n0_ := Aside0.mk (Kd.R_lower ho84 (keep_size (w := w) (g := g) (row := none) (zz3_0_ HK.out))); have n1_ := Aside0.mk (IsS47.below (zz3_1_ HI0.out) hb); have n2_ := Aside0.mk (KeepBut.trans (zz3_0_ HK.out) (KeepBut.of_below hb g none) (.inl rfl)); have n3_ := Aside0.mk (below_step (zz3_2_ HB.out HI0.out) hb); clear HI0; clear HK; clear HB; have HO192 := n0_; have HI0 := n1_; have HK := n2_; have HB := n3_; clear n0_ n1_ n2_ n3_; clear hb ho84))
             go_loopg [8, 9] kj52 (fun kq v8 v9 w' => ∃ (x8_3 : List (S35)) (x9_3 : Int) (x1001_3 : Int), v9 = .int .i64 x9_3 ∧ Aside0 (spec_l20Cells.l0 kq a1 (rd y168 x5_5) x8_3 x9_3 s0_0 x1001_3 = some (r1, r2)) ∧ Aside0 (kq ≤ kj52) ∧ Aside0 (Kd.R k35 35 w' w.heap.size (fun _ => True) v8 x8_3) ∧ Aside0 (IsS47 w0 w' g s0_0 x1001_3) ∧ Aside0 (KeepBut w w' g none) ∧ Aside0 (Below w0.heap.size w0 w'))
             case atStart => exact ⟨(y190), (0), (x1001_52), (by first | rfl | (simp; done) | (simp [*]; done)), H', ⟨Nat.le_refl _⟩, ⟨zz3_4_ HO192.out⟩, ⟨zz3_1_ HI0.out⟩, ⟨zz3_0_ HK.out⟩, ⟨zz3_2_ HB.out HI0.out⟩⟩
             case round =>
              clear H'
              try clear c1
              try clear p1
              try clear q1
              try clear hx1
              try clear c2
              try clear p2
              try clear c3
              try clear c4
              try clear c4b0
              try clear c5
              try clear c5b0
              try clear c6
              try clear p6
              try clear c7
              try clear c11
              try clear c11b0
              try clear p12
              try clear q12
              try clear hx12
              try clear p13
              try clear q13
              try clear hx13
              try clear c14
              try clear c14b0
              try clear c14b1
              try clear p14
              try clear q14
              try clear hx14
              try clear p15
              try clear q15
              try clear hx15
              try clear c16
              try clear c16b0
              try clear c17
              try clear c17b0
              try clear p17
              try clear q17
              try clear hx17
              try clear p18
              try clear q18
              try clear hx18
              try clear c24
              try clear c24b0
              try clear c24b1
              try clear c26
              try clear c26b0
              try clear c27
              try clear c27b0
              try clear c30
              try clear c34
              try clear c34b0
              try clear c34b1
              try clear c35
              try clear c36
              try clear c36b0
              try clear c37
              try clear c37b0
              try clear c44
              try clear c44b0
              try clear c44b1
              try clear c51
              try clear c51b0
              try clear c52
              try clear c52b0
              try clear c53
              try clear c59
              try clear c59b0
              try clear c59b1
              try clear c61
              try clear c61b0
              try clear c62
              try clear c62b0
              try clear p64
              try clear c67
              try clear c67b0
              try clear c67b1
              try clear c69
              try clear c69b0
              try clear c70
              try clear c70b0
              try clear c75
              try clear c75b0
              try clear c75b1
              try clear c77
              try clear c77b0
              try clear c78
              try clear c78b0
              try clear hx129_0
              try clear hx137_0
              try clear hx146_0
              try clear hx155_0
              try clear hx171_0
              try clear hx177_0
              try clear hx183_0
              try clear hx189_0
              try clear p1
              try clear p12
              try clear p129
              try clear p13
              try clear p137
              try clear p14
              try clear p146
              try clear p15
              try clear p155
              try clear p17
              try clear p171
              try clear p177
              try clear p18
              try clear p183
              try clear p189
              try clear p2
              try clear p6
              try clear p64
              try clear q1
              try clear q12
              try clear q129
              try clear q13
              try clear q137
              try clear q14
              try clear q146
              try clear q15
              try clear q155
              try clear q17
              try clear q171
              try clear q177
              try clear q18
              try clear q183
              try clear q189
              obtain ⟨x8_3, x9_3, x1001_3, rfl, HA, HK3, HO_8, HI0, HK, HB⟩ := hrel
              cases gk with
              | zero => exact absurd HA.out (by simp [spec_l20Cells.l0])
              | succ k3 =>
               have H := HA.out
               clear HA
               simp only [spec_l20Cells.l0] at H
               by_cases c85 : x9_3 < (rd y168 x5_5)
               ·rw [if_pos c85] at H
                have c85b0 : decide (x9_3 < (rd y168 x5_5)) = true := decide_eq_true c85
                clear c85
                replace H := Option.bind_eq_some_iff.mp H
                obtain ⟨⟨t193, t196⟩, A860, H⟩ := H
                try dsimp only at H
                have A86 := Aside0.mk A860
                clear A860
                by_cases c87 : x8_3.length + t193.length < 4398046511104
                ·rw [if_pos c87] at H
                 have LMc87 := Aside0.mk c87
                 clear c87
                 obtain ⟨y197, hy197⟩ : ∃ y_ : List (S35), y_ = (x8_3 ++ t193) := ⟨_, rfl⟩
                 replace H : (spec_l20Cells.l0 k3 a1 (rd y168 x5_5) y197 (wrap64 (x9_3 + 1)) s0_0 t196) = some (r1, r2) := by first | (rw [hy197]; with_reducible exact H) | (have H2_ := (Option.bind_some _ _).symm.trans H; rw [hy197]; with_reducible exact H2_) | (have H2_ := (Option.bind_some _ _).symm.trans H; with_reducible exact H2_) | with_reducible exact H | (rw [hy197]; exact H) | exact H
                 have Ny197 := Aside0.mk hy197
                 clear hy197
                 have H' := Aside0.mk H
                 clear H
                 go_wp2_with (first | ((with_reducible refine gate_callee (f := 35) rfl ?_); refine goesL_ (some 99) rfl rfl Tryz.func35 (by kernel_rfl) rfl #[.pointer (some ⟨g, 0, none⟩), .int .i64 (wrap64 (a1 - 1))] rfl (zz3_3_) ?_; (with_reducible refine (ih k3 (by have := HJ5.out; have := HJ52.out; have := HK3.out; omega) g s0_0 x1001_3 (wrap64 (a1 - 1)) t193 t196 w0 _ ?side1 ?side2 A86.out).mono ?_); (case side1 => exact zz3_1_ HI0.out); (case side2 => exact zz3_2_ HB.out HI0.out); rintro e w88 ⟨v194, rfl, ho0, hi, hb, hk⟩; refine ⟨_, rfl, ?_⟩; have n0_ := Aside0.mk (Kd.R_mono (Kd.R_told (Kd.R_oldK (IsS47.apart (show IsS47 w0 _ g s0_0 x1001_3 from by repeat (first | (with_reducible first | exact HI0.out | apply IsS47.alloc | apply IsS47.drewN | apply IsS47.drew | apply IsS47.set_1) | exact HI0.out)) (zz3_4_ HO_8.out) (by decide)) hk) (Kd.R_base ho0)) (fun _ h_ => h_.1)); have n1_ := Aside0.mk (Kd.R_lower (Kd.R_new' ho0 (Kd.R_lt (zz3_4_ HO_8.out))) (keep_size (w := w) (g := g) (row := none) (zz3_0_ HK.out))); have n2_ := Aside0.mk (KeepBut.trans (zz3_0_ HK.out) hk (.inl rfl)); have n3_ := Aside0.mk (hb); have n4_ := Aside0.mk (hi); clear HO_8; clear HK; clear HB; clear HI0; have HO_8 := n0_; have HO195 := n1_; have HK := n2_; have HB := n3_; have HI0 := n4_; clear n0_ n1_ n2_ n3_ n4_; (try clear hb); (try clear hb2); (try clear hk); (try clear hi); (try clear ho0); obtain ⟨Ao90, co90, eo90⟩ := Kd.R_slice HO195.out; subst eo90) | ((with_reducible refine gate_builtin (b := .append) (xs := #[.tmp 95, .tmp 99]) rfl ?_); at_builtin; refine Kd.R_append_rows k35 w.heap.size rfl (.tmp 95) (.tmp 99) 23 35 (.agg #[(.int .i64 0), (.string ⟨#[]⟩), (.int .i64 0)]) 32 rfl Tryz.underlying23 info35 rfl (by decide) (by omega) u8 x8_3 t193 _ _ _ (fun k_ => some k_ ≠ (.slice Ao90 t193.length co90 : Value).ownBlock) (fun _ => False) rfl rfl ?aO ?aR (fun _ _ h => h) (fun _ h => h.elim) ?aF (Below.refl _ _) ?aS ?aL ?_; (case aR => repeat (first | exact (Kd.R_reads' HO195.out).2.2 | (with_reducible refine Kd.C_alloc ?_ _) | (with_reducible refine Kd.C_drewN ?_ _) | (with_reducible refine Kd.C_drew ?_))); (case aF => exact (fun k_ hk => Kd.fresh' (Kd.R_lt (zz3_4_ HO195.out)) k_ hk)); (case aO => exact (by (with_reducible repeat (first | apply Kd.R_alloc | apply Kd.R_drewN | apply Kd.R_drew)); exact Kd.R_mono HO_8.out (fun _ hk => hk.2))); (case aS => exact (keep_size (w := w) (g := g) (row := none) (zz3_0_ HK.out))); (case aL => have := LMc87.out; omega); intro v198 w89 ho hb hg hat; rw [← Ny197.out] at ho; have n0_ := Aside0.mk (IsS47.grown (zz3_1_ HI0.out) hg (IsS47.own_ne HI0.out HO_8.out (by decide))); have n1_ := Aside0.mk (Kd.R_after (ok := (fun _ => True)) (zz3_4_ HO195.out) hg hat); have n2_ := Aside0.mk (below_weaken (zz3_2_ HB.out HI0.out) HL.out hb); have n3_ := Aside0.mk (KeepBut.trans (zz3_0_ HK.out) (KeepBut.of_grown hg g) (Kd.R_base2 HO_8.out)); have n4_ := Aside0.mk (ho); clear HI0; clear HO195; clear HB; clear HK; clear HO_8; have HI0 := n0_; have HO195 := n1_; have HB := n2_; have HK := n3_; have HO199 := n4_; clear n0_ n1_ n2_ n3_ n4_; clear ho hb hg hat))
                 go_roundg k3
                 case measure => have := HJ5.out; have := HJ52.out; have := HK3.out; omega
                 case rel => exact ⟨(y197), (wrap64 (x9_3 + 1)), (t196), (by first | rfl | (simp; done) | (simp [*]; done)), H', ⟨by have := HJ5.out; have := HJ52.out; have := HK3.out; omega⟩, ⟨by (with_reducible repeat (first | apply Kd.R_alloc | apply Kd.R_drewN | apply Kd.R_drew)); exact Kd.R_mono HO199.out (fun _ hk => trivial)⟩, ⟨zz3_1_ HI0.out⟩, ⟨zz3_0_ HK.out⟩, ⟨zz3_2_ HB.out HI0.out⟩⟩
                ·rw [if_neg c87] at H
                 exact absurd H (by simp)
               ·rw [if_neg c85] at H
                have c85b0 : decide (x9_3 < (rd y168 x5_5)) = false := decide_eq_false c85
                clear c85
                simp only [Option.some.injEq, Prod.mk.injEq] at H
                obtain ⟨rfl, rfl⟩ := H
                go_wp2
                go_ret
                exact ⟨_, by first | rfl | (simp [errW_none, errW_some] <;> rfl) | (simp [*, errW_none, errW_some] <;> rfl), zz3_4_ HO_8.out, zz3_1_ HI0.out, zz3_2_ HB.out HI0.out, zz3_0_ HK.out⟩
          ·rw [if_neg c52] at H
           exact absurd H (by simp)
         ·rw [if_neg c51] at H
          exact absurd H (by simp)
  ·rw [if_neg c5] at H
   exact absurd H (by simp)
 ·rw [if_neg c4] at H
  exact absurd H (by simp)

end Go.Proofs.YtifeiepociopoaaGreatDoor.PEx
