-- Written for this session by its program hprint.py over the kit's print: functions, and contracts that the walk of the Go code proves.
import Derived.Test.YtifeiepociopoaaGreatDoorPEvx0
import Derived.Test.YtifeiepociopoaaGreatDoorPEvx8
import Derived.Test.YtifeiepociopoaaGreatDoorPEvx9
import Derived.Test.YtifeiepociopoaaGreatDoorPEvx10
namespace Go.Proofs.YtifeiepociopoaaGreatDoor.PEv
open Go.RowKit Go.Proofs.YtifeiepociopoaaGreatDoor.Hand Go.Proofs.YtifeiepociopoaaGreatDoorW.PrintWords Go.Proofs.YtifeiepociopoaaGreatDoorW.PrintLast Go.Proofs.YtifeiepociopoaaGreatDoorW.PrintMore
attribute [local go_sem] max2_int min2_int max_two min_two max_three min_three max_four min_four   -- for this text's walks alone
set_option linter.unusedVariables false
set_option linter.unusedSimpArgs false

/-! ### spec_l20Cells: function 35 -/
theorem zz11_0_ {P1 Q : Prop} (h1 : P1) (f : P1 → Q := by intro zq1_; repeat (first | (with_reducible first | exact zq1_ | apply KeepBut.set_ | apply keep_drewN | apply keep_drew | apply keep_alloc) | exact zq1_)) : Q := f h1
theorem zz11_1_ {P1 Q : Prop} (h1 : P1) (f : P1 → Q := by intro zq1_; repeat (first | (with_reducible first | exact zq1_ | apply IsS47.alloc | apply IsS47.drewN | apply IsS47.drew | apply IsS47.set_1) | exact zq1_)) : Q := f h1
theorem zz11_2_ {P1 P2 Q : Prop} (h1 : P1) (h2 : P2) (f : P1 → P2 → Q := by intro zq1_ zq2_; repeat (first | (with_reducible first | exact zq1_ | apply below_alloc | apply pw_below_drewN | apply below_drew1 | refine below_set ?_ (IsS47.ge zq2_)) | exact zq1_)) : Q := f h1 h2
theorem zz11_3_ {Q : Prop} (f : Q := by (try simp only [List.map_toArray, List.map_cons, List.map_nil]); first | done | rfl | (simp only [List.length_drop, List.length_take]; rfl)) : Q := f
theorem zz11_4_ {P1 Q : Prop} (h1 : P1) (f : P1 → Q := by intro zq1_; (with_reducible repeat (first | apply Kd.R_alloc | apply Kd.R_drewN | apply Kd.R_drew)); exact zq1_) : Q := f h1
theorem zz11_5_ {Q : Prop} (f : Q := by first | (with_reducible assumption) | assumption) : Q := f
mutual
def spec_l20Cells.j0 : Nat → Int → Int → List Int → Int → Option ((List (S35)) × Int)
 | 0, _, _, _, _ => none
 | k + 1, x1, x5, x1000, x1001 => if x5 = 1 then ((some (([(⟨#[48]⟩ : ByteArray), (⟨#[49]⟩ : ByteArray), (⟨#[50]⟩ : ByteArray), (⟨#[49, 50]⟩ : ByteArray), (⟨#[48, 46, 53]⟩ : ByteArray), (⟨#[51, 46, 50, 53]⟩ : ByteArray)] : List ByteArray) : List ByteArray)).bind fun y246 => ((spec_l20Rd_pick.f k x1000 x1001 6).bind fun bt249 => (if 0 ≤ bt249.1 then (if bt249.1 < (y246.length : Int) then (some ((([(⟨1, rdOf ByteArray.empty y246 bt249.1, 0⟩ : S35)] : List (S35))), bt249.2)) else (none)) else (none)))) else (if x5 = 2 then ((some (([(⟨#[]⟩ : ByteArray), (⟨#[97]⟩ : ByteArray), (⟨#[65, 98]⟩ : ByteArray), (⟨#[120, 10, 121]⟩ : ByteArray), (⟨#[34]⟩ : ByteArray), (⟨#[35]⟩ : ByteArray)] : List ByteArray) : List ByteArray)).bind fun y255 => ((spec_l20Rd_pick.f k x1000 x1001 6).bind fun bt258 => (if 0 ≤ bt258.1 then (if bt258.1 < (y255.length : Int) then (some ((([(⟨2, rdOf ByteArray.empty y255 bt258.1, 0⟩ : S35)] : List (S35))), bt258.2)) else (none)) else (none)))) else (if x5 = 3 then ((some (([(⟨#[116, 114, 117, 101]⟩ : ByteArray), (⟨#[102, 97, 108, 115, 101]⟩ : ByteArray)] : List ByteArray) : List ByteArray)).bind fun y264 => ((spec_l20Rd_pick.f k x1000 x1001 2).bind fun bt267 => (if 0 ≤ bt267.1 then (if bt267.1 < (y264.length : Int) then (some ((([(⟨3, rdOf ByteArray.empty y264 bt267.1, 0⟩ : S35)] : List (S35))), bt267.2)) else (none)) else (none)))) else (if x5 = 4 then ((spec_l20Name.f k x1000 x1001 0).bind fun bt273 => (some ((([(⟨4, bt273.1, 0⟩ : S35)] : List (S35))), bt273.2))) else ((spec_l20Rd_pick.f k x1000 x1001 3).bind fun bt278 => ((spec_l20Rd_pick.f k x1000 bt278.2 2).bind fun bt280 => ((some (([0, 0, 0, 0, 0, bt278.1, wrap64 (1 + bt280.1), 1, 2, 3] : List Int) : List Int)).bind fun y282 => (if 0 ≤ x5 then (if x5 < (y282.length : Int) then (if x5 = 6 then ((some (([(⟨#[108, 101, 110, 103, 116, 104]⟩ : ByteArray), (⟨#[117, 112, 112, 101, 114]⟩ : ByteArray), (⟨#[109, 105, 110]⟩ : ByteArray), (⟨#[109, 97, 120]⟩ : ByteArray), (⟨#[102, 105, 114, 115, 116]⟩ : ByteArray), (⟨#[114, 101, 118, 101, 114, 115, 101]⟩ : ByteArray), (⟨#[99, 111, 110, 116, 97, 105, 110, 115]⟩ : ByteArray), (⟨#[106, 111, 105, 110]⟩ : ByteArray), (⟨#[102]⟩ : ByteArray)] : List ByteArray) : List ByteArray)).bind fun y286 => ((spec_l20Rd_pick.f k x1000 bt280.2 9).bind fun bt289 => (if 0 ≤ bt289.1 then (if bt289.1 < (y286.length : Int) then (spec_l20Cells.j1 k x1 x5 (rd y282 x5) (rdOf ByteArray.empty y286 bt289.1) x1000 bt289.2) else (none)) else (none)))) else (if x5 = 7 then ((some (([(⟨#[33]⟩ : ByteArray), (⟨#[45]⟩ : ByteArray)] : List ByteArray) : List ByteArray)).bind fun y292 => ((spec_l20Rd_pick.f k x1000 bt280.2 2).bind fun bt295 => (if 0 ≤ bt295.1 then (if bt295.1 < (y292.length : Int) then (spec_l20Cells.j1 k x1 x5 (rd y282 x5) (rdOf ByteArray.empty y292 bt295.1) x1000 bt295.2) else (none)) else (none)))) else (if x5 = 8 then ((some (([(⟨#[124, 124]⟩ : ByteArray), (⟨#[38, 38]⟩ : ByteArray), (⟨#[61, 61]⟩ : ByteArray), (⟨#[33, 61]⟩ : ByteArray), (⟨#[60]⟩ : ByteArray), (⟨#[60, 61]⟩ : ByteArray), (⟨#[62]⟩ : ByteArray), (⟨#[62, 61]⟩ : ByteArray), (⟨#[43]⟩ : ByteArray), (⟨#[45]⟩ : ByteArray), (⟨#[42]⟩ : ByteArray), (⟨#[47]⟩ : ByteArray), (⟨#[37]⟩ : ByteArray), (⟨#[38, 38]⟩ : ByteArray), (⟨#[43]⟩ : ByteArray)] : List ByteArray) : List ByteArray)).bind fun y298 => ((spec_l20Rd_pick.f k x1000 bt280.2 15).bind fun bt301 => (if 0 ≤ bt301.1 then (if bt301.1 < (y298.length : Int) then (spec_l20Cells.j1 k x1 x5 (rd y282 x5) (rdOf ByteArray.empty y298 bt301.1) x1000 bt301.2) else (none)) else (none)))) else (spec_l20Cells.j1 k x1 x5 (rd y282 x5) (⟨#[]⟩ : ByteArray) x1000 bt280.2)))) else (none)) else (none))))))))
def spec_l20Cells.j1 : Nat → Int → Int → Int → ByteArray → List Int → Int → Option ((List (S35)) × Int)
 | 0, _, _, _, _, _, _ => none
 | k + 1, x1, x5, x6, x7, x1000, x1001 => spec_l20Cells.l0 k x1 x6 (([(⟨x5, x7, x6⟩ : S35)] : List (S35))) 0 x1000 x1001
def spec_l20Cells.l0 : Nat → Int → Int → List (S35) → Int → List Int → Int → Option ((List (S35)) × Int)
 | 0, _, _, _, _, _, _ => none
 | k + 1, x1, x6, x8, x9, x1000, x1001 => if x9 < x6 then ((spec_l20Cells.f k x1000 x1001 (wrap64 (x1 - 1))).bind fun bt307 => (if x8.length + bt307.1.length < 4398046511104 then (spec_l20Cells.l0 k x1 x6 (x8 ++ bt307.1) (wrap64 (x9 + 1)) x1000 bt307.2) else (none))) else (some (x8, x1001))
def spec_l20Cells.f : Nat → List Int → Int → Int → Option ((List (S35)) × Int)
 | 0, _, _, _ => none
 | k + 1, s0_0, s0_1, a1 => (some (([1, 2, 3, 4, 4, 5, 6, 7, 7, 8, 8, 8, 9] : List Int) : List Int)).bind fun y238 => ((spec_l20Rd_pick.f k s0_0 s0_1 13).bind fun bt241 => (if 0 ≤ bt241.1 then (if bt241.1 < (y238.length : Int) then (if a1 ≤ 1 then ((spec_l20Rd_pick.f k s0_0 bt241.2 4).bind fun bt244 => (spec_l20Cells.j0 k a1 (wrap64 (1 + bt244.1)) s0_0 bt244.2)) else (spec_l20Cells.j0 k a1 (rd y238 bt241.1) s0_0 bt241.2)) else (none)) else (none)))
end
theorem spec_l20Cells.mono_l : ∀ k, (∀ y0 y1 y2, LeO (spec_l20Cells.f k y0 y1 y2) (spec_l20Cells.f (k + 1) y0 y1 y2)) ∧ (∀ y0 y1 y2 y3, LeO (spec_l20Cells.j0 k y0 y1 y2 y3) (spec_l20Cells.j0 (k + 1) y0 y1 y2 y3)) ∧ (∀ y0 y1 y2 y3 y4 y5, LeO (spec_l20Cells.j1 k y0 y1 y2 y3 y4 y5) (spec_l20Cells.j1 (k + 1) y0 y1 y2 y3 y4 y5)) ∧ (∀ y0 y1 y2 y3 y4 y5, LeO (spec_l20Cells.l0 k y0 y1 y2 y3 y4 y5) (spec_l20Cells.l0 (k + 1) y0 y1 y2 y3 y4 y5))
 | 0 => ⟨fun _ _ _ r h => by simp [spec_l20Cells.f] at h, fun _ _ _ _ r h => by simp [spec_l20Cells.j0] at h, fun _ _ _ _ _ _ r h => by simp [spec_l20Cells.j1] at h, fun _ _ _ _ _ _ r h => by simp [spec_l20Cells.l0] at h⟩
 | k + 1 => by
  obtain ⟨ih0, ih1, ih2, ih3⟩ := spec_l20Cells.mono_l k
  refine ⟨?_, ?_, ?_, ?_⟩
  ·intro y0 y1 y2
   unfold spec_l20Cells.f
   repeat' first
   | (with_reducible exact ih0 _ _ _)
   | (with_reducible exact ih1 _ _ _ _)
   | (with_reducible exact ih2 _ _ _ _ _ _)
   | (with_reducible exact ih3 _ _ _ _ _ _)
   | (with_reducible exact spec_l20Name.mono _ _ _ _)
   | (with_reducible exact spec_l20Rd_pick.mono _ _ _ _)
   | (with_reducible exact LeO.refl _)
   | (with_reducible exact LeO.none _)
   | (with_reducible refine LeO.ite ?_ ?_)
   | (with_reducible refine LeO.bind ?_ (fun _ => ?_))
   | exact ih0 _ _ _
   | exact ih1 _ _ _ _
   | exact ih2 _ _ _ _ _ _
   | exact ih3 _ _ _ _ _ _
   | exact spec_l20Name.mono _ _ _ _
   | exact spec_l20Rd_pick.mono _ _ _ _
   | exact LeO.none _
   | refine LeO.ite ?_ ?_
   | refine LeO.bind ?_ (fun _ => ?_)
  ·intro y0 y1 y2 y3
   unfold spec_l20Cells.j0
   repeat' first
   | (with_reducible exact ih0 _ _ _)
   | (with_reducible exact ih1 _ _ _ _)
   | (with_reducible exact ih2 _ _ _ _ _ _)
   | (with_reducible exact ih3 _ _ _ _ _ _)
   | (with_reducible exact spec_l20Name.mono _ _ _ _)
   | (with_reducible exact spec_l20Rd_pick.mono _ _ _ _)
   | (with_reducible exact LeO.refl _)
   | (with_reducible exact LeO.none _)
   | (with_reducible refine LeO.ite ?_ ?_)
   | (with_reducible refine LeO.bind ?_ (fun _ => ?_))
   | exact ih0 _ _ _
   | exact ih1 _ _ _ _
   | exact ih2 _ _ _ _ _ _
   | exact ih3 _ _ _ _ _ _
   | exact spec_l20Name.mono _ _ _ _
   | exact spec_l20Rd_pick.mono _ _ _ _
   | exact LeO.none _
   | refine LeO.ite ?_ ?_
   | refine LeO.bind ?_ (fun _ => ?_)
  ·intro y0 y1 y2 y3 y4 y5
   unfold spec_l20Cells.j1
   repeat' first
   | (with_reducible exact ih0 _ _ _)
   | (with_reducible exact ih1 _ _ _ _)
   | (with_reducible exact ih2 _ _ _ _ _ _)
   | (with_reducible exact ih3 _ _ _ _ _ _)
   | (with_reducible exact spec_l20Name.mono _ _ _ _)
   | (with_reducible exact spec_l20Rd_pick.mono _ _ _ _)
   | (with_reducible exact LeO.refl _)
   | (with_reducible exact LeO.none _)
   | (with_reducible refine LeO.ite ?_ ?_)
   | (with_reducible refine LeO.bind ?_ (fun _ => ?_))
   | exact ih0 _ _ _
   | exact ih1 _ _ _ _
   | exact ih2 _ _ _ _ _ _
   | exact ih3 _ _ _ _ _ _
   | exact spec_l20Name.mono _ _ _ _
   | exact spec_l20Rd_pick.mono _ _ _ _
   | exact LeO.none _
   | refine LeO.ite ?_ ?_
   | refine LeO.bind ?_ (fun _ => ?_)
  ·intro y0 y1 y2 y3 y4 y5
   unfold spec_l20Cells.l0
   repeat' first
   | (with_reducible exact ih0 _ _ _)
   | (with_reducible exact ih1 _ _ _ _)
   | (with_reducible exact ih2 _ _ _ _ _ _)
   | (with_reducible exact ih3 _ _ _ _ _ _)
   | (with_reducible exact spec_l20Name.mono _ _ _ _)
   | (with_reducible exact spec_l20Rd_pick.mono _ _ _ _)
   | (with_reducible exact LeO.refl _)
   | (with_reducible exact LeO.none _)
   | (with_reducible refine LeO.ite ?_ ?_)
   | (with_reducible refine LeO.bind ?_ (fun _ => ?_))
   | exact ih0 _ _ _
   | exact ih1 _ _ _ _
   | exact ih2 _ _ _ _ _ _
   | exact ih3 _ _ _ _ _ _
   | exact spec_l20Name.mono _ _ _ _
   | exact spec_l20Rd_pick.mono _ _ _ _
   | exact LeO.none _
   | refine LeO.ite ?_ ?_
   | refine LeO.bind ?_ (fun _ => ?_)
theorem spec_l20Cells.mono : ∀ a0 a1 a2 k, LeO (spec_l20Cells.f k a0 a1 a2) (spec_l20Cells.f (k + 1) a0 a1 a2) := by
 intro a0 a1 a2 k
 obtain ⟨ih0, ih1, ih2, ih3⟩ := spec_l20Cells.mono_l k
 exact ih0 a0 a1 a2
set_option maxHeartbeats 8000000 in
set_option maxRecDepth 100000 in
theorem spec_l20Cells.calls (k : Nat) : ∀ (g : Nat) (s0_0 : List Int) (s0_1 : Int) (a1 : Int) (r1 : List (S35)) (r2 : Int) (w0 w : World) (hI : IsS47 w0 w g s0_0 s0_1) (hB : Below w0.heap.size w0 w) (h : spec_l20Cells.f k s0_0 s0_1 a1 = some (r1, r2)),
  Calls Tryz.prog 35 #[.pointer (some ⟨g, 0, none⟩), .int .i64 a1] w fun e w' => ∃ v0_ : Value, e = .returned (v0_) ∧ Kd.R k35 35 w' w.heap.size (fun _ => True) v0_ r1 ∧ IsS47 w0 w' g s0_0 r2 ∧ Below w0.heap.size w0 w' ∧ KeepBut w w' g none := by
 induction k using Nat.strongRecOn with
 | _ k ih =>
 intro g s0_0 s0_1 a1 r1 r2 w0 w hI hB h
 cases k with
 | zero => exact absurd h (by simp [spec_l20Cells.f])
 | succ k =>
 simp only [spec_l20Cells.f] at h
 have hu35 := Tryz.underlying35
 have HI0 := Aside0.mk hI
 have HK := Aside0.mk (KeepBut.refl w g none)
 have HL := Aside0.mk hB.size
 clear hI
 have HW0 := Aside0.mk hB.size
 have HB := Aside0.mk hB
 clear hB
 have H : ((some (([1, 2, 3, 4, 4, 5, 6, 7, 7, 8, 8, 8, 9] : List Int) : List Int)).bind fun y238 => ((spec_l20Rd_pick.f k s0_0 s0_1 13).bind fun bt241 => (if 0 ≤ bt241.1 then (if bt241.1 < (y238.length : Int) then (if a1 ≤ 1 then ((spec_l20Rd_pick.f k s0_0 bt241.2 4).bind fun bt244 => (spec_l20Cells.j0 k a1 (wrap64 (1 + bt244.1)) s0_0 bt244.2)) else (spec_l20Cells.j0 k a1 (rd y238 bt241.1) s0_0 bt241.2)) else (none)) else (none)))) = some (r1, r2) := h
 clear h
 obtain ⟨y238, hy238⟩ : ∃ y_ : List Int, y_ = (([1, 2, 3, 4, 4, 5, 6, 7, 7, 8, 8, 8, 9] : List Int)) := ⟨_, rfl⟩
 replace H : ((spec_l20Rd_pick.f k s0_0 s0_1 13).bind fun bt241 => (if 0 ≤ bt241.1 then (if bt241.1 < (y238.length : Int) then (if a1 ≤ 1 then ((spec_l20Rd_pick.f k s0_0 bt241.2 4).bind fun bt244 => (spec_l20Cells.j0 k a1 (wrap64 (1 + bt244.1)) s0_0 bt244.2)) else (spec_l20Cells.j0 k a1 (rd y238 bt241.1) s0_0 bt241.2)) else (none)) else (none))) = some (r1, r2) := by first | (rw [hy238]; with_reducible exact H) | (have H2_ := (Option.bind_some _ _).symm.trans H; rw [hy238]; with_reducible exact H2_) | (have H2_ := (Option.bind_some _ _).symm.trans H; with_reducible exact H2_) | with_reducible exact H | (rw [hy238]; exact H) | exact H
 have Ny238 := Aside0.mk hy238
 clear hy238
 replace H := Option.bind_eq_some_iff.mp H
 obtain ⟨⟨t241, t242⟩, A30, H⟩ := H
 try dsimp only at H
 have A3 := Aside0.mk A30
 clear A30
 by_cases c4 : 0 ≤ t241
 ·rw [if_pos c4] at H
  have c4b0 : decide (0 ≤ t241) = true := decide_eq_true c4
  clear c4
  by_cases c5 : t241 < (y238.length : Int)
  ·rw [if_pos c5] at H
   have c5b0 : decide (t241 < (y238.length : Int)) = true := decide_eq_true c5
   clear c5
   have HC6 := Aside0.mk H
   clear H
   go_enter Tryz.func35, Tryz.ntmps35
   go_upto_if 16 with (first | ((with_reducible refine gate_dst (N := 10) rfl ?_); refine Kd.R_lit (Kd.int .i64) _ 3 ?hg (N := 10) ?hd (xs := ([1, 2, 3, 4, 4, 5, 6, 7, 7, 8, 8, 8, 9] : List Int)) (inner := [.int .i64 1, .int .i64 2, .int .i64 3, .int .i64 4, .int .i64 4, .int .i64 5, .int .i64 6, .int .i64 7, .int .i64 7, .int .i64 8, .int .i64 8, .int .i64 8, .int .i64 9]) (ok := fun _ => True) (okp := fun _ => True) ?hr ?hp (fun _ hk => hk) trivial (Below.refl _ _) (Nat.le_refl _) (by simp) ?_; (case hd => rfl); (case hg => rfl); (case hr => first | (go_simp; done) | (go_simp; rfl)); (case hp => exact (Reps.one (show Kd.M (Kd.int .i64) _ _ _ 1 [.int .i64 1] from rfl) (Reps.one (show Kd.M (Kd.int .i64) _ _ _ 2 [.int .i64 2] from rfl) (Reps.one (show Kd.M (Kd.int .i64) _ _ _ 3 [.int .i64 3] from rfl) (Reps.one (show Kd.M (Kd.int .i64) _ _ _ 4 [.int .i64 4] from rfl) (Reps.one (show Kd.M (Kd.int .i64) _ _ _ 4 [.int .i64 4] from rfl) (Reps.one (show Kd.M (Kd.int .i64) _ _ _ 5 [.int .i64 5] from rfl) (Reps.one (show Kd.M (Kd.int .i64) _ _ _ 6 [.int .i64 6] from rfl) (Reps.one (show Kd.M (Kd.int .i64) _ _ _ 7 [.int .i64 7] from rfl) (Reps.one (show Kd.M (Kd.int .i64) _ _ _ 7 [.int .i64 7] from rfl) (Reps.one (show Kd.M (Kd.int .i64) _ _ _ 8 [.int .i64 8] from rfl) (Reps.one (show Kd.M (Kd.int .i64) _ _ _ 8 [.int .i64 8] from rfl) (Reps.one (show Kd.M (Kd.int .i64) _ _ _ 8 [.int .i64 8] from rfl) (Reps.one (show Kd.M (Kd.int .i64) _ _ _ 9 [.int .i64 9] from rfl) (Reps.none _ _))))))))))))))); intro v239 w7 ho8 hb hg_ hnew_; clear hg_ hnew_; (first | rw [← Ny238.out] at ho8 | (simp only [Int.reduceToNat] at ho8; rw [← Ny238.out] at ho8)); have n0_ := Aside0.mk (Kd.R_lower ho8 (keep_size (w := w) (g := g) (row := none) (zz11_0_ HK.out))); have n1_ := Aside0.mk (IsS47.below (zz11_1_ HI0.out) hb); have n2_ := Aside0.mk (KeepBut.trans (zz11_0_ HK.out) (KeepBut.of_below hb g none) (.inl rfl)); have n3_ := Aside0.mk (below_step (zz11_2_ HB.out HI0.out) hb); clear HI0; clear HK; clear HB; have HO240 := n0_; have HI0 := n1_; have HK := n2_; have HB := n3_; clear n0_ n1_ n2_ n3_; clear hb ho8) | ((with_reducible refine gate_callee (f := 30) rfl ?_); refine goesL_ (some 12) rfl rfl Tryz.func30 (by kernel_rfl) rfl #[.pointer (some ⟨g, 0, none⟩), .int .i64 13] rfl (zz11_3_) ?_; (with_reducible refine (spec_l20Rd_pick.calls k g s0_0 s0_1 13 t241 t242 w0 _ ?side1 ?side2 A3.out).mono ?_); (case side1 => exact zz11_1_ HI0.out); (case side2 => exact zz11_2_ HB.out HI0.out); rintro e w9 ⟨rfl, hi, hb, hk⟩; refine ⟨_, rfl, ?_⟩; have n0_ := Aside0.mk (Kd.R_mono (Kd.R_keep (IsS47.apart (show IsS47 w0 _ g s0_0 s0_1 from by repeat (first | (with_reducible first | exact HI0.out | apply IsS47.alloc | apply IsS47.drewN | apply IsS47.drew | apply IsS47.set_1) | exact HI0.out)) (zz11_4_ HO240.out) (by decide)) hk (fun _ h => h.2)) (fun _ h => h.1)); have n1_ := Aside0.mk (KeepBut.trans (zz11_0_ HK.out) hk (.inl rfl)); have n2_ := Aside0.mk (hb); have n3_ := Aside0.mk (hi); clear HO240; clear HK; clear HB; clear HI0; have HO240 := n0_; have HK := n1_; have HB := n2_; have HI0 := n3_; clear n0_ n1_ n2_ n3_; (try clear hb); (try clear hb2); (try clear hk); (try clear hi); obtain ⟨Ao10, co10, eo10⟩ := Kd.R_slice HO240.out; subst eo10; have p243 : 0 ≤ (t241 : Int) := of_decide_eq_true (zz11_5_); have q243 : t241 < (y238.length : Int) := of_decide_eq_true (zz11_5_); obtain ⟨ad243, e243, hx243_0⟩ := Kd.at_int (Kd.R_reads' HO240.out).2.2 t241 p243 q243; cases e243; replace p243 := eq_true p243; replace q243 := eq_true q243))
   (try simp only [Act.put, List.setIfInBounds_toArray, List.set_cons_zero, List.set_cons_succ])
   go_cut [5] (fun v5 wc => ∃ (kq : Nat) (x5_5 : Int) (x1001_5 : Int), v5 = .int .i64 x5_5 ∧ Aside0 (spec_l20Cells.j0 kq a1 x5_5 s0_0 x1001_5 = some (r1, r2)) ∧ Aside0 (kq ≤ k) ∧ Aside0 (IsS47 w0 wc g s0_0 x1001_5) ∧ Aside0 (KeepBut w wc g none) ∧ Aside0 (Below w0.heap.size w0 wc))
   case first =>
    have H := HC6.out
    clear HC6
    by_cases c11 : a1 ≤ 1
    ·rw [if_pos c11] at H
     have c11b0 : decide (a1 ≤ 1) = true := decide_eq_true c11
     clear c11
     (first | rw [c11b0] | (simp only [i64_w, i32_w]; rw [c11b0]) | skip)
     replace H := Option.bind_eq_some_iff.mp H
     obtain ⟨⟨t244, t245⟩, A120, H⟩ := H
     try dsimp only at H
     have A12 := Aside0.mk A120
     clear A120
     have H' := Aside0.mk H
     clear H
     go_wp2_with (first | ((with_reducible refine gate_callee (f := 30) rfl ?_); refine goesL_ (some 18) rfl rfl Tryz.func30 (by kernel_rfl) rfl #[.pointer (some ⟨g, 0, none⟩), .int .i64 4] rfl (zz11_3_) ?_; (with_reducible refine (spec_l20Rd_pick.calls k g s0_0 t242 4 t244 t245 w0 _ ?side1 ?side2 A12.out).mono ?_); (case side1 => exact zz11_1_ HI0.out); (case side2 => exact zz11_2_ HB.out HI0.out); rintro e w13 ⟨rfl, hi, hb, hk⟩; refine ⟨_, rfl, ?_⟩; have n0_ := Aside0.mk (Kd.R_mono (Kd.R_keep (IsS47.apart (show IsS47 w0 _ g s0_0 t242 from by repeat (first | (with_reducible first | exact HI0.out | apply IsS47.alloc | apply IsS47.drewN | apply IsS47.drew | apply IsS47.set_1) | exact HI0.out)) (zz11_4_ HO240.out) (by decide)) hk (fun _ h => h.2)) (fun _ h => h.1)); have n1_ := Aside0.mk (KeepBut.trans (zz11_0_ HK.out) hk (.inl rfl)); have n2_ := Aside0.mk (hb); have n3_ := Aside0.mk (hi); clear HO240; clear HK; clear HB; clear HI0; have HO240 := n0_; have HK := n1_; have HB := n2_; have HI0 := n3_; clear n0_ n1_ n2_ n3_; (try clear hb); (try clear hb2); (try clear hk); (try clear hi)))
     go_meet
     case rel => exact ⟨_, (wrap64 (1 + t244)), (t245), (by first | rfl | (simp; done) | (simp [*]; done)), H', ⟨by first | omega | exact Nat.le_refl _⟩, ⟨zz11_1_ HI0.out⟩, ⟨zz11_0_ HK.out⟩, ⟨zz11_2_ HB.out HI0.out⟩⟩
    ·rw [if_neg c11] at H
     have c11b0 : decide (a1 ≤ 1) = false := decide_eq_false c11
     clear c11
     (first | rw [c11b0] | (simp only [i64_w, i32_w]; rw [c11b0]) | skip)
     have H' := Aside0.mk H
     clear H
     go_wp2
     go_meet
     case rel => exact ⟨_, (rd y238 t241), (t242), (by first | rfl | (simp; done) | (simp [*]; done)), H', ⟨by first | omega | exact Nat.le_refl _⟩, ⟨zz11_1_ HI0.out⟩, ⟨zz11_0_ HK.out⟩, ⟨zz11_2_ HB.out HI0.out⟩⟩
   case rest =>
    clear HC6
    try clear c1
    try clear p2
    try clear q2
    try clear hx2
    try clear c3
    try clear c4
    try clear c4b0
    try clear c5
    try clear c5b0
    try clear p6
    try clear c11
    try clear c11b0
    try clear hx243_0
    try clear p243
    try clear q243
    obtain ⟨kq, x5_5, x1001_5, rfl, HA, HJ5, HI0, HK, HB⟩ := hcut
    cases kq with
    | zero => exact absurd HA.out (by simp [spec_l20Cells.j0])
    | succ kj5 =>
     have H := HA.out
     clear HA
     simp only [spec_l20Cells.j0] at H
     by_cases c14 : x5_5 = 1
     ·rw [if_pos c14] at H
      have c14b0 : (x5_5 == 1) = true := beq_iff_eq.mpr c14
      have c14b1 : (x5_5 != 1) = false := bne_eq_false_iff_eq.mpr c14
      clear c14
      obtain ⟨y246, hy246⟩ : ∃ y_ : List ByteArray, y_ = (([(⟨#[48]⟩ : ByteArray), (⟨#[49]⟩ : ByteArray), (⟨#[50]⟩ : ByteArray), (⟨#[49, 50]⟩ : ByteArray), (⟨#[48, 46, 53]⟩ : ByteArray), (⟨#[51, 46, 50, 53]⟩ : ByteArray)] : List ByteArray)) := ⟨_, rfl⟩
      replace H : ((spec_l20Rd_pick.f kj5 s0_0 x1001_5 6).bind fun bt249 => (if 0 ≤ bt249.1 then (if bt249.1 < (y246.length : Int) then (some ((([(⟨1, rdOf ByteArray.empty y246 bt249.1, 0⟩ : S35)] : List (S35))), bt249.2)) else (none)) else (none))) = some (r1, r2) := by first | (rw [hy246]; with_reducible exact H) | (have H2_ := (Option.bind_some _ _).symm.trans H; rw [hy246]; with_reducible exact H2_) | (have H2_ := (Option.bind_some _ _).symm.trans H; with_reducible exact H2_) | with_reducible exact H | (rw [hy246]; exact H) | exact H
      have Ny246 := Aside0.mk hy246
      clear hy246
      replace H := Option.bind_eq_some_iff.mp H
      obtain ⟨⟨t249, t250⟩, A150, H⟩ := H
      try dsimp only at H
      have A15 := Aside0.mk A150
      clear A150
      by_cases c16 : 0 ≤ t249
      ·rw [if_pos c16] at H
       have c16b0 : decide (0 ≤ t249) = true := decide_eq_true c16
       clear c16
       by_cases c17 : t249 < (y246.length : Int)
       ·rw [if_pos c17] at H
        have c17b0 : decide (t249 < (y246.length : Int)) = true := decide_eq_true c17
        clear c17
        obtain ⟨y252, hy252⟩ : ∃ y_ : List (S35), y_ = (([(⟨1, rdOf ByteArray.empty y246 t249, 0⟩ : S35)] : List (S35))) := ⟨_, rfl⟩
        replace H : (some (y252, t250)) = some (r1, r2) := by first | (rw [hy252]; with_reducible exact H) | (have H2_ := (Option.bind_some _ _).symm.trans H; rw [hy252]; with_reducible exact H2_) | (have H2_ := (Option.bind_some _ _).symm.trans H; with_reducible exact H2_) | with_reducible exact H | (rw [hy252]; exact H) | exact H
        have Ny252 := Aside0.mk hy252
        clear hy252
        simp only [Option.some.injEq, Prod.mk.injEq] at H
        obtain ⟨rfl, rfl⟩ := H
        go_wp2_with (first | ((with_reducible refine gate_dst (N := 23) rfl ?_); refine Kd.R_lit Kd.string _ 9 ?hg (N := 23) ?hd (xs := ([(⟨#[48]⟩ : ByteArray), (⟨#[49]⟩ : ByteArray), (⟨#[50]⟩ : ByteArray), (⟨#[49, 50]⟩ : ByteArray), (⟨#[48, 46, 53]⟩ : ByteArray), (⟨#[51, 46, 50, 53]⟩ : ByteArray)] : List ByteArray)) (inner := [.string (⟨#[48]⟩ : ByteArray), .string (⟨#[49]⟩ : ByteArray), .string (⟨#[50]⟩ : ByteArray), .string (⟨#[49, 50]⟩ : ByteArray), .string (⟨#[48, 46, 53]⟩ : ByteArray), .string (⟨#[51, 46, 50, 53]⟩ : ByteArray)]) (ok := fun _ => True) (okp := fun _ => True) ?hr ?hp (fun _ hk => hk) trivial (Below.refl _ _) (Nat.le_refl _) (by simp) ?_; (case hd => rfl); (case hg => rfl); (case hr => first | (go_simp; done) | (go_simp; rfl)); (case hp => exact (Reps.one (show Kd.M Kd.string _ _ _ (⟨#[48]⟩ : ByteArray) [.string (⟨#[48]⟩ : ByteArray)] from rfl) (Reps.one (show Kd.M Kd.string _ _ _ (⟨#[49]⟩ : ByteArray) [.string (⟨#[49]⟩ : ByteArray)] from rfl) (Reps.one (show Kd.M Kd.string _ _ _ (⟨#[50]⟩ : ByteArray) [.string (⟨#[50]⟩ : ByteArray)] from rfl) (Reps.one (show Kd.M Kd.string _ _ _ (⟨#[49, 50]⟩ : ByteArray) [.string (⟨#[49, 50]⟩ : ByteArray)] from rfl) (Reps.one (show Kd.M Kd.string _ _ _ (⟨#[48, 46, 53]⟩ : ByteArray) [.string (⟨#[48, 46, 53]⟩ : ByteArray)] from rfl) (Reps.one (show Kd.M Kd.string _ _ _ (⟨#[51, 46, 50, 53]⟩ : ByteArray) [.string (⟨#[51, 46, 50, 53]⟩ : ByteArray)] from rfl) (Reps.none _ _)))))))); intro v247 w18 ho19 hb hg_ hnew_; clear hg_ hnew_; (first | rw [← Ny246.out] at ho19 | (simp only [Int.reduceToNat] at ho19; rw [← Ny246.out] at ho19)); have n0_ := Aside0.mk (Kd.R_lower ho19 (keep_size (w := w) (g := g) (row := none) (zz11_0_ HK.out))); have n1_ := Aside0.mk (IsS47.below (zz11_1_ HI0.out) hb); have n2_ := Aside0.mk (KeepBut.trans (zz11_0_ HK.out) (KeepBut.of_below hb g none) (.inl rfl)); have n3_ := Aside0.mk (below_step (zz11_2_ HB.out HI0.out) hb); clear HI0; clear HK; clear HB; have HO248 := n0_; have HI0 := n1_; have HK := n2_; have HB := n3_; clear n0_ n1_ n2_ n3_; clear hb ho19) | ((with_reducible refine gate_callee (f := 30) rfl ?_); refine goesL_ (some 25) rfl rfl Tryz.func30 (by kernel_rfl) rfl #[.pointer (some ⟨g, 0, none⟩), .int .i64 6] rfl (zz11_3_) ?_; (with_reducible refine (spec_l20Rd_pick.calls kj5 g s0_0 x1001_5 6 t249 t250 w0 _ ?side1 ?side2 A15.out).mono ?_); (case side1 => exact zz11_1_ HI0.out); (case side2 => exact zz11_2_ HB.out HI0.out); rintro e w20 ⟨rfl, hi, hb, hk⟩; refine ⟨_, rfl, ?_⟩; have n0_ := Aside0.mk (Kd.R_mono (Kd.R_keep (IsS47.apart (show IsS47 w0 _ g s0_0 x1001_5 from by repeat (first | (with_reducible first | exact HI0.out | apply IsS47.alloc | apply IsS47.drewN | apply IsS47.drew | apply IsS47.set_1) | exact HI0.out)) (zz11_4_ HO248.out) (by decide)) hk (fun _ h => h.2)) (fun _ h => h.1)); have n1_ := Aside0.mk (KeepBut.trans (zz11_0_ HK.out) hk (.inl rfl)); have n2_ := Aside0.mk (hb); have n3_ := Aside0.mk (hi); clear HO248; clear HK; clear HB; clear HI0; have HO248 := n0_; have HK := n1_; have HB := n2_; have HI0 := n3_; clear n0_ n1_ n2_ n3_; (try clear hb); (try clear hb2); (try clear hk); (try clear hi); obtain ⟨Ao21, co21, eo21⟩ := Kd.R_slice HO248.out; subst eo21; have p251 : 0 ≤ (t249 : Int) := of_decide_eq_true (zz11_5_); have q251 : t249 < (y246.length : Int) := of_decide_eq_true (zz11_5_); obtain ⟨ad251, e251, hx251_0⟩ := Kd.at_string (Kd.R_reads' HO248.out).2.2 t249 p251 q251; cases e251; replace p251 := eq_true p251; replace q251 := eq_true q251) | ((with_reducible refine gate_dst (N := 29) rfl ?_); refine Kd.R_lit k35 _ 35 ?hg (N := 29) ?hd (xs := ([(⟨1, rdOf ByteArray.empty y246 t249, 0⟩ : S35)] : List (S35))) (inner := [.int .i64 1, .string (rdOf ByteArray.empty y246 t249), .int .i64 0]) (ok := fun _ => True) (okp := fun _ => True) ?hr ?hp (fun _ hk => hk) trivial (Below.refl _ _) (Nat.le_refl _) (by simp) ?_; (case hd => rfl); (case hg => rfl); (case hr => first | (go_simp; done) | (go_simp; rfl)); (case hp => exact (Reps.c3 (show Kd.M k35 _ _ _ (⟨1, rdOf ByteArray.empty y246 t249, 0⟩ : S35) [.int .i64 1, .string (rdOf ByteArray.empty y246 t249), .int .i64 0] from (k35_mkM _ _ _ (⟨1, rdOf ByteArray.empty y246 t249, 0⟩ : S35) )) (Reps.none _ _))); intro v253 w22 ho23 hb hg_ hnew_; clear hg_ hnew_; (first | rw [← Ny252.out] at ho23 | (simp only [Int.reduceToNat] at ho23; rw [← Ny252.out] at ho23)); have n0_ := Aside0.mk (Kd.R_below (zz11_4_ HO248.out) hb); have n1_ := Aside0.mk (Kd.R_lower ho23 (keep_size (w := w) (g := g) (row := none) (zz11_0_ HK.out))); have n2_ := Aside0.mk (IsS47.below (zz11_1_ HI0.out) hb); have n3_ := Aside0.mk (KeepBut.trans (zz11_0_ HK.out) (KeepBut.of_below hb g none) (.inl rfl)); have n4_ := Aside0.mk (below_step (zz11_2_ HB.out HI0.out) hb); clear HO248; clear HI0; clear HK; clear HB; have HO248 := n0_; have HO254 := n1_; have HI0 := n2_; have HK := n3_; have HB := n4_; clear n0_ n1_ n2_ n3_ n4_; clear hb ho23))
        go_ret
        exact ⟨_, by first | rfl | (simp [errW_none, errW_some] <;> rfl) | (simp [*, errW_none, errW_some] <;> rfl), zz11_4_ HO254.out, zz11_1_ HI0.out, zz11_2_ HB.out HI0.out, zz11_0_ HK.out⟩
       ·rw [if_neg c17] at H
        exact absurd H (by simp)
      ·rw [if_neg c16] at H
       exact absurd H (by simp)
     ·rw [if_neg c14] at H
      have c14b0 : (x5_5 == 1) = false := beq_eq_false_iff_ne.mpr c14
      have c14b1 : (x5_5 != 1) = true := bne_iff_ne.mpr c14
      by_cases c24 : x5_5 = 2
      ·rw [if_pos c24] at H
       have c24b0 : (x5_5 == 2) = true := beq_iff_eq.mpr c24
       have c24b1 : (x5_5 != 2) = false := bne_eq_false_iff_eq.mpr c24
       clear c24
       obtain ⟨y255, hy255⟩ : ∃ y_ : List ByteArray, y_ = (([(⟨#[]⟩ : ByteArray), (⟨#[97]⟩ : ByteArray), (⟨#[65, 98]⟩ : ByteArray), (⟨#[120, 10, 121]⟩ : ByteArray), (⟨#[34]⟩ : ByteArray), (⟨#[35]⟩ : ByteArray)] : List ByteArray)) := ⟨_, rfl⟩
       replace H : ((spec_l20Rd_pick.f kj5 s0_0 x1001_5 6).bind fun bt258 => (if 0 ≤ bt258.1 then (if bt258.1 < (y255.length : Int) then (some ((([(⟨2, rdOf ByteArray.empty y255 bt258.1, 0⟩ : S35)] : List (S35))), bt258.2)) else (none)) else (none))) = some (r1, r2) := by first | (rw [hy255]; with_reducible exact H) | (have H2_ := (Option.bind_some _ _).symm.trans H; rw [hy255]; with_reducible exact H2_) | (have H2_ := (Option.bind_some _ _).symm.trans H; with_reducible exact H2_) | with_reducible exact H | (rw [hy255]; exact H) | exact H
       have Ny255 := Aside0.mk hy255
       clear hy255
       replace H := Option.bind_eq_some_iff.mp H
       obtain ⟨⟨t258, t259⟩, A250, H⟩ := H
       try dsimp only at H
       have A25 := Aside0.mk A250
       clear A250
       by_cases c26 : 0 ≤ t258
       ·rw [if_pos c26] at H
        have c26b0 : decide (0 ≤ t258) = true := decide_eq_true c26
        clear c26
        by_cases c27 : t258 < (y255.length : Int)
        ·rw [if_pos c27] at H
         have c27b0 : decide (t258 < (y255.length : Int)) = true := decide_eq_true c27
         clear c27
         obtain ⟨y261, hy261⟩ : ∃ y_ : List (S35), y_ = (([(⟨2, rdOf ByteArray.empty y255 t258, 0⟩ : S35)] : List (S35))) := ⟨_, rfl⟩
         replace H : (some (y261, t259)) = some (r1, r2) := by first | (rw [hy261]; with_reducible exact H) | (have H2_ := (Option.bind_some _ _).symm.trans H; rw [hy261]; with_reducible exact H2_) | (have H2_ := (Option.bind_some _ _).symm.trans H; with_reducible exact H2_) | with_reducible exact H | (rw [hy261]; exact H) | exact H
         have Ny261 := Aside0.mk hy261
         clear hy261
         simp only [Option.some.injEq, Prod.mk.injEq] at H
         obtain ⟨rfl, rfl⟩ := H
         go_wp2_with (first | ((with_reducible refine gate_dst (N := 32) rfl ?_); refine Kd.R_lit Kd.string _ 9 ?hg (N := 32) ?hd (xs := ([(⟨#[]⟩ : ByteArray), (⟨#[97]⟩ : ByteArray), (⟨#[65, 98]⟩ : ByteArray), (⟨#[120, 10, 121]⟩ : ByteArray), (⟨#[34]⟩ : ByteArray), (⟨#[35]⟩ : ByteArray)] : List ByteArray)) (inner := [.string (⟨#[]⟩ : ByteArray), .string (⟨#[97]⟩ : ByteArray), .string (⟨#[65, 98]⟩ : ByteArray), .string (⟨#[120, 10, 121]⟩ : ByteArray), .string (⟨#[34]⟩ : ByteArray), .string (⟨#[35]⟩ : ByteArray)]) (ok := fun _ => True) (okp := fun _ => True) ?hr ?hp (fun _ hk => hk) trivial (Below.refl _ _) (Nat.le_refl _) (by simp) ?_; (case hd => rfl); (case hg => rfl); (case hr => first | (go_simp; done) | (go_simp; rfl)); (case hp => exact (Reps.one (show Kd.M Kd.string _ _ _ (⟨#[]⟩ : ByteArray) [.string (⟨#[]⟩ : ByteArray)] from rfl) (Reps.one (show Kd.M Kd.string _ _ _ (⟨#[97]⟩ : ByteArray) [.string (⟨#[97]⟩ : ByteArray)] from rfl) (Reps.one (show Kd.M Kd.string _ _ _ (⟨#[65, 98]⟩ : ByteArray) [.string (⟨#[65, 98]⟩ : ByteArray)] from rfl) (Reps.one (show Kd.M Kd.string _ _ _ (⟨#[120, 10, 121]⟩ : ByteArray) [.string (⟨#[120, 10, 121]⟩ : ByteArray)] from rfl) (Reps.one (show Kd.M Kd.string _ _ _ (⟨#[34]⟩ : ByteArray) [.string (⟨#[34]⟩ : ByteArray)] from rfl) (Reps.one (show Kd.M Kd.string _ _ _ (⟨#[35]⟩ : ByteArray) [.string (⟨#[35]⟩ : ByteArray)] from rfl) (Reps.none _ _)))))))); intro v256 w28 ho29 hb hg_ hnew_; clear hg_ hnew_; (first | rw [← Ny255.out] at ho29 | (simp only [Int.reduceToNat] at ho29; rw [← Ny255.out] at ho29)); have n0_ := Aside0.mk (Kd.R_lower ho29 (keep_size (w := w) (g := g) (row := none) (zz11_0_ HK.out))); have n1_ := Aside0.mk (IsS47.below (zz11_1_ HI0.out) hb); have n2_ := Aside0.mk (KeepBut.trans (zz11_0_ HK.out) (KeepBut.of_below hb g none) (.inl rfl)); have n3_ := Aside0.mk (below_step (zz11_2_ HB.out HI0.out) hb); clear HI0; clear HK; clear HB; have HO257 := n0_; have HI0 := n1_; have HK := n2_; have HB := n3_; clear n0_ n1_ n2_ n3_; clear hb ho29) | ((with_reducible refine gate_callee (f := 30) rfl ?_); refine goesL_ (some 34) rfl rfl Tryz.func30 (by kernel_rfl) rfl #[.pointer (some ⟨g, 0, none⟩), .int .i64 6] rfl (zz11_3_) ?_; (with_reducible refine (spec_l20Rd_pick.calls kj5 g s0_0 x1001_5 6 t258 t259 w0 _ ?side1 ?side2 A25.out).mono ?_); (case side1 => exact zz11_1_ HI0.out); (case side2 => exact zz11_2_ HB.out HI0.out); rintro e w30 ⟨rfl, hi, hb, hk⟩; refine ⟨_, rfl, ?_⟩; have n0_ := Aside0.mk (Kd.R_mono (Kd.R_keep (IsS47.apart (show IsS47 w0 _ g s0_0 x1001_5 from by repeat (first | (with_reducible first | exact HI0.out | apply IsS47.alloc | apply IsS47.drewN | apply IsS47.drew | apply IsS47.set_1) | exact HI0.out)) (zz11_4_ HO257.out) (by decide)) hk (fun _ h => h.2)) (fun _ h => h.1)); have n1_ := Aside0.mk (KeepBut.trans (zz11_0_ HK.out) hk (.inl rfl)); have n2_ := Aside0.mk (hb); have n3_ := Aside0.mk (hi); clear HO257; clear HK; clear HB; clear HI0; have HO257 := n0_; have HK := n1_; have HB := n2_; have HI0 := n3_; clear n0_ n1_ n2_ n3_; (try clear hb); (try clear hb2); (try clear hk); (try clear hi); obtain ⟨Ao31, co31, eo31⟩ := Kd.R_slice HO257.out; subst eo31; have p260 : 0 ≤ (t258 : Int) := of_decide_eq_true (zz11_5_); have q260 : t258 < (y255.length : Int) := of_decide_eq_true (zz11_5_); obtain ⟨ad260, e260, hx260_0⟩ := Kd.at_string (Kd.R_reads' HO257.out).2.2 t258 p260 q260; cases e260; replace p260 := eq_true p260; replace q260 := eq_true q260) | ((with_reducible refine gate_dst (N := 38) rfl ?_); refine Kd.R_lit k35 _ 35 ?hg (N := 38) ?hd (xs := ([(⟨2, rdOf ByteArray.empty y255 t258, 0⟩ : S35)] : List (S35))) (inner := [.int .i64 2, .string (rdOf ByteArray.empty y255 t258), .int .i64 0]) (ok := fun _ => True) (okp := fun _ => True) ?hr ?hp (fun _ hk => hk) trivial (Below.refl _ _) (Nat.le_refl _) (by simp) ?_; (case hd => rfl); (case hg => rfl); (case hr => first | (go_simp; done) | (go_simp; rfl)); (case hp => exact (Reps.c3 (show Kd.M k35 _ _ _ (⟨2, rdOf ByteArray.empty y255 t258, 0⟩ : S35) [.int .i64 2, .string (rdOf ByteArray.empty y255 t258), .int .i64 0] from (k35_mkM _ _ _ (⟨2, rdOf ByteArray.empty y255 t258, 0⟩ : S35) )) (Reps.none _ _))); intro v262 w32 ho33 hb hg_ hnew_; clear hg_ hnew_; (first | rw [← Ny261.out] at ho33 | (simp only [Int.reduceToNat] at ho33; rw [← Ny261.out] at ho33)); have n0_ := Aside0.mk (Kd.R_below (zz11_4_ HO257.out) hb); have n1_ := Aside0.mk (Kd.R_lower ho33 (keep_size (w := w) (g := g) (row := none) (zz11_0_ HK.out))); have n2_ := Aside0.mk (IsS47.below (zz11_1_ HI0.out) hb); have n3_ := Aside0.mk (KeepBut.trans (zz11_0_ HK.out) (KeepBut.of_below hb g none) (.inl rfl)); have n4_ := Aside0.mk (below_step (zz11_2_ HB.out HI0.out) hb); clear HO257; clear HI0; clear HK; clear HB; have HO257 := n0_; have HO263 := n1_; have HI0 := n2_; have HK := n3_; have HB := n4_; clear n0_ n1_ n2_ n3_ n4_; clear hb ho33))
         go_ret
         exact ⟨_, by first | rfl | (simp [errW_none, errW_some] <;> rfl) | (simp [*, errW_none, errW_some] <;> rfl), zz11_4_ HO263.out, zz11_1_ HI0.out, zz11_2_ HB.out HI0.out, zz11_0_ HK.out⟩
        ·rw [if_neg c27] at H
         exact absurd H (by simp)
       ·rw [if_neg c26] at H
        exact absurd H (by simp)
      ·rw [if_neg c24] at H
       have c24b0 : (x5_5 == 2) = false := beq_eq_false_iff_ne.mpr c24
       have c24b1 : (x5_5 != 2) = true := bne_iff_ne.mpr c24
       by_cases c34 : x5_5 = 3
       ·rw [if_pos c34] at H
        have c34b0 : (x5_5 == 3) = true := beq_iff_eq.mpr c34
        have c34b1 : (x5_5 != 3) = false := bne_eq_false_iff_eq.mpr c34
        clear c34
        obtain ⟨y264, hy264⟩ : ∃ y_ : List ByteArray, y_ = (([(⟨#[116, 114, 117, 101]⟩ : ByteArray), (⟨#[102, 97, 108, 115, 101]⟩ : ByteArray)] : List ByteArray)) := ⟨_, rfl⟩
        replace H : ((spec_l20Rd_pick.f kj5 s0_0 x1001_5 2).bind fun bt267 => (if 0 ≤ bt267.1 then (if bt267.1 < (y264.length : Int) then (some ((([(⟨3, rdOf ByteArray.empty y264 bt267.1, 0⟩ : S35)] : List (S35))), bt267.2)) else (none)) else (none))) = some (r1, r2) := by first | (rw [hy264]; with_reducible exact H) | (have H2_ := (Option.bind_some _ _).symm.trans H; rw [hy264]; with_reducible exact H2_) | (have H2_ := (Option.bind_some _ _).symm.trans H; with_reducible exact H2_) | with_reducible exact H | (rw [hy264]; exact H) | exact H
        have Ny264 := Aside0.mk hy264
        clear hy264
        replace H := Option.bind_eq_some_iff.mp H
        obtain ⟨⟨t267, t268⟩, A350, H⟩ := H
        try dsimp only at H
        have A35 := Aside0.mk A350
        clear A350
        by_cases c36 : 0 ≤ t267
        ·rw [if_pos c36] at H
         have c36b0 : decide (0 ≤ t267) = true := decide_eq_true c36
         clear c36
         by_cases c37 : t267 < (y264.length : Int)
         ·rw [if_pos c37] at H
          have c37b0 : decide (t267 < (y264.length : Int)) = true := decide_eq_true c37
          clear c37
          obtain ⟨y270, hy270⟩ : ∃ y_ : List (S35), y_ = (([(⟨3, rdOf ByteArray.empty y264 t267, 0⟩ : S35)] : List (S35))) := ⟨_, rfl⟩
          replace H : (some (y270, t268)) = some (r1, r2) := by first | (rw [hy270]; with_reducible exact H) | (have H2_ := (Option.bind_some _ _).symm.trans H; rw [hy270]; with_reducible exact H2_) | (have H2_ := (Option.bind_some _ _).symm.trans H; with_reducible exact H2_) | with_reducible exact H | (rw [hy270]; exact H) | exact H
          have Ny270 := Aside0.mk hy270
          clear hy270
          simp only [Option.some.injEq, Prod.mk.injEq] at H
          obtain ⟨rfl, rfl⟩ := H
          go_wp2_with (first | ((with_reducible refine gate_dst (N := 41) rfl ?_); refine Kd.R_lit Kd.string _ 9 ?hg (N := 41) ?hd (xs := ([(⟨#[116, 114, 117, 101]⟩ : ByteArray), (⟨#[102, 97, 108, 115, 101]⟩ : ByteArray)] : List ByteArray)) (inner := [.string (⟨#[116, 114, 117, 101]⟩ : ByteArray), .string (⟨#[102, 97, 108, 115, 101]⟩ : ByteArray)]) (ok := fun _ => True) (okp := fun _ => True) ?hr ?hp (fun _ hk => hk) trivial (Below.refl _ _) (Nat.le_refl _) (by simp) ?_; (case hd => rfl); (case hg => rfl); (case hr => first | (go_simp; done) | (go_simp; rfl)); (case hp => exact (Reps.one (show Kd.M Kd.string _ _ _ (⟨#[116, 114, 117, 101]⟩ : ByteArray) [.string (⟨#[116, 114, 117, 101]⟩ : ByteArray)] from rfl) (Reps.one (show Kd.M Kd.string _ _ _ (⟨#[102, 97, 108, 115, 101]⟩ : ByteArray) [.string (⟨#[102, 97, 108, 115, 101]⟩ : ByteArray)] from rfl) (Reps.none _ _)))); intro v265 w38 ho39 hb hg_ hnew_; clear hg_ hnew_; (first | rw [← Ny264.out] at ho39 | (simp only [Int.reduceToNat] at ho39; rw [← Ny264.out] at ho39)); have n0_ := Aside0.mk (Kd.R_lower ho39 (keep_size (w := w) (g := g) (row := none) (zz11_0_ HK.out))); have n1_ := Aside0.mk (IsS47.below (zz11_1_ HI0.out) hb); have n2_ := Aside0.mk (KeepBut.trans (zz11_0_ HK.out) (KeepBut.of_below hb g none) (.inl rfl)); have n3_ := Aside0.mk (below_step (zz11_2_ HB.out HI0.out) hb); clear HI0; clear HK; clear HB; have HO266 := n0_; have HI0 := n1_; have HK := n2_; have HB := n3_; clear n0_ n1_ n2_ n3_; clear hb ho39) | ((with_reducible refine gate_callee (f := 30) rfl ?_); refine goesL_ (some 43) rfl rfl Tryz.func30 (by kernel_rfl) rfl #[.pointer (some ⟨g, 0, none⟩), .int .i64 2] rfl (zz11_3_) ?_; (with_reducible refine (spec_l20Rd_pick.calls kj5 g s0_0 x1001_5 2 t267 t268 w0 _ ?side1 ?side2 A35.out).mono ?_); (case side1 => exact zz11_1_ HI0.out); (case side2 => exact zz11_2_ HB.out HI0.out); rintro e w40 ⟨rfl, hi, hb, hk⟩; refine ⟨_, rfl, ?_⟩; have n0_ := Aside0.mk (Kd.R_mono (Kd.R_keep (IsS47.apart (show IsS47 w0 _ g s0_0 x1001_5 from by repeat (first | (with_reducible first | exact HI0.out | apply IsS47.alloc | apply IsS47.drewN | apply IsS47.drew | apply IsS47.set_1) | exact HI0.out)) (zz11_4_ HO266.out) (by decide)) hk (fun _ h => h.2)) (fun _ h => h.1)); have n1_ := Aside0.mk (KeepBut.trans (zz11_0_ HK.out) hk (.inl rfl)); have n2_ := Aside0.mk (hb); have n3_ := Aside0.mk (hi); clear HO266; clear HK; clear HB; clear HI0; have HO266 := n0_; have HK := n1_; have HB := n2_; have HI0 := n3_; clear n0_ n1_ n2_ n3_; (try clear hb); (try clear hb2); (try clear hk); (try clear hi); obtain ⟨Ao41, co41, eo41⟩ := Kd.R_slice HO266.out; subst eo41; have p269 : 0 ≤ (t267 : Int) := of_decide_eq_true (zz11_5_); have q269 : t267 < (y264.length : Int) := of_decide_eq_true (zz11_5_); obtain ⟨ad269, e269, hx269_0⟩ := Kd.at_string (Kd.R_reads' HO266.out).2.2 t267 p269 q269; cases e269; replace p269 := eq_true p269; replace q269 := eq_true q269) | ((with_reducible refine gate_dst (N := 47) rfl ?_); refine Kd.R_lit k35 _ 35 ?hg (N := 47) ?hd (xs := ([(⟨3, rdOf ByteArray.empty y264 t267, 0⟩ : S35)] : List (S35))) (inner := [.int .i64 3, .string (rdOf ByteArray.empty y264 t267), .int .i64 0]) (ok := fun _ => True) (okp := fun _ => True) ?hr ?hp (fun _ hk => hk) trivial (Below.refl _ _) (Nat.le_refl _) (by simp) ?_; (case hd => rfl); (case hg => rfl); (case hr => first | (go_simp; done) | (go_simp; rfl)); (case hp => exact (Reps.c3 (show Kd.M k35 _ _ _ (⟨3, rdOf ByteArray.empty y264 t267, 0⟩ : S35) [.int .i64 3, .string (rdOf ByteArray.empty y264 t267), .int .i64 0] from (k35_mkM _ _ _ (⟨3, rdOf ByteArray.empty y264 t267, 0⟩ : S35) )) (Reps.none _ _))); intro v271 w42 ho43 hb hg_ hnew_; clear hg_ hnew_; (first | rw [← Ny270.out] at ho43 | (simp only [Int.reduceToNat] at ho43; rw [← Ny270.out] at ho43)); have n0_ := Aside0.mk (Kd.R_below (zz11_4_ HO266.out) hb); have n1_ := Aside0.mk (Kd.R_lower ho43 (keep_size (w := w) (g := g) (row := none) (zz11_0_ HK.out))); have n2_ := Aside0.mk (IsS47.below (zz11_1_ HI0.out) hb); have n3_ := Aside0.mk (KeepBut.trans (zz11_0_ HK.out) (KeepBut.of_below hb g none) (.inl rfl)); have n4_ := Aside0.mk (below_step (zz11_2_ HB.out HI0.out) hb); clear HO266; clear HI0; clear HK; clear HB; have HO266 := n0_; have HO272 := n1_; have HI0 := n2_; have HK := n3_; have HB := n4_; clear n0_ n1_ n2_ n3_ n4_; clear hb ho43))
          go_ret
          exact ⟨_, by first | rfl | (simp [errW_none, errW_some] <;> rfl) | (simp [*, errW_none, errW_some] <;> rfl), zz11_4_ HO272.out, zz11_1_ HI0.out, zz11_2_ HB.out HI0.out, zz11_0_ HK.out⟩
         ·rw [if_neg c37] at H
          exact absurd H (by simp)
        ·rw [if_neg c36] at H
         exact absurd H (by simp)
       ·rw [if_neg c34] at H
        have c34b0 : (x5_5 == 3) = false := beq_eq_false_iff_ne.mpr c34
        have c34b1 : (x5_5 != 3) = true := bne_iff_ne.mpr c34
        by_cases c44 : x5_5 = 4
        ·rw [if_pos c44] at H
         have c44b0 : (x5_5 == 4) = true := beq_iff_eq.mpr c44
         have c44b1 : (x5_5 != 4) = false := bne_eq_false_iff_eq.mpr c44
         clear c44
         replace H := Option.bind_eq_some_iff.mp H
         obtain ⟨⟨t273, t274⟩, A450, H⟩ := H
         try dsimp only at H
         have A45 := Aside0.mk A450
         clear A450
         obtain ⟨y275, hy275⟩ : ∃ y_ : List (S35), y_ = (([(⟨4, t273, 0⟩ : S35)] : List (S35))) := ⟨_, rfl⟩
         replace H : (some (y275, t274)) = some (r1, r2) := by first | (rw [hy275]; with_reducible exact H) | (have H2_ := (Option.bind_some _ _).symm.trans H; rw [hy275]; with_reducible exact H2_) | (have H2_ := (Option.bind_some _ _).symm.trans H; with_reducible exact H2_) | with_reducible exact H | (rw [hy275]; exact H) | exact H
         have Ny275 := Aside0.mk hy275
         clear hy275
         simp only [Option.some.injEq, Prod.mk.injEq] at H
         obtain ⟨rfl, rfl⟩ := H
         go_wp2_with (first | ((with_reducible refine gate_callee (f := 53) rfl ?_); refine goesL_ (some 51) rfl rfl Tryz.func53 (by kernel_rfl) rfl #[.pointer (some ⟨g, 0, none⟩), .int .i64 0] rfl (zz11_3_) ?_; (with_reducible refine (spec_l20Name.calls kj5 g s0_0 x1001_5 0 t273 t274 w0 _ ?side1 ?side2 A45.out).mono ?_); (case side1 => exact zz11_1_ HI0.out); (case side2 => exact zz11_2_ HB.out HI0.out); rintro e w46 ⟨rfl, hi, hb, hk⟩; refine ⟨_, rfl, ?_⟩; have n0_ := Aside0.mk (KeepBut.trans (zz11_0_ HK.out) hk (.inl rfl)); have n1_ := Aside0.mk (hb); have n2_ := Aside0.mk (hi); clear HK; clear HB; clear HI0; have HK := n0_; have HB := n1_; have HI0 := n2_; clear n0_ n1_ n2_; (try clear hb); (try clear hb2); (try clear hk); (try clear hi)) | ((with_reducible refine gate_dst (N := 53) rfl ?_); refine Kd.R_lit k35 _ 35 ?hg (N := 53) ?hd (xs := ([(⟨4, t273, 0⟩ : S35)] : List (S35))) (inner := [.int .i64 4, .string t273, .int .i64 0]) (ok := fun _ => True) (okp := fun _ => True) ?hr ?hp (fun _ hk => hk) trivial (Below.refl _ _) (Nat.le_refl _) (by simp) ?_; (case hd => rfl); (case hg => rfl); (case hr => first | (go_simp; done) | (go_simp; rfl)); (case hp => exact (Reps.c3 (show Kd.M k35 _ _ _ (⟨4, t273, 0⟩ : S35) [.int .i64 4, .string t273, .int .i64 0] from (k35_mkM _ _ _ (⟨4, t273, 0⟩ : S35) )) (Reps.none _ _))); intro v276 w47 ho48 hb hg_ hnew_; clear hg_ hnew_; (first | rw [← Ny275.out] at ho48 | (simp only [Int.reduceToNat] at ho48; rw [← Ny275.out] at ho48)); have n0_ := Aside0.mk (Kd.R_lower ho48 (keep_size (w := w) (g := g) (row := none) (zz11_0_ HK.out))); have n1_ := Aside0.mk (IsS47.below (zz11_1_ HI0.out) hb); have n2_ := Aside0.mk (KeepBut.trans (zz11_0_ HK.out) (KeepBut.of_below hb g none) (.inl rfl)); have n3_ := Aside0.mk (below_step (zz11_2_ HB.out HI0.out) hb); clear HI0; clear HK; clear HB; have HO277 := n0_; have HI0 := n1_; have HK := n2_; have HB := n3_; clear n0_ n1_ n2_ n3_; clear hb ho48))
         go_ret
         exact ⟨_, by first | rfl | (simp [errW_none, errW_some] <;> rfl) | (simp [*, errW_none, errW_some] <;> rfl), zz11_4_ HO277.out, zz11_1_ HI0.out, zz11_2_ HB.out HI0.out, zz11_0_ HK.out⟩
        ·rw [if_neg c44] at H
         have c44b0 : (x5_5 == 4) = false := beq_eq_false_iff_ne.mpr c44
         have c44b1 : (x5_5 != 4) = true := bne_iff_ne.mpr c44
         replace H := Option.bind_eq_some_iff.mp H
         obtain ⟨⟨t278, t279⟩, A490, H⟩ := H
         try dsimp only at H
         have A49 := Aside0.mk A490
         clear A490
         replace H := Option.bind_eq_some_iff.mp H
         obtain ⟨⟨t280, t281⟩, A500, H⟩ := H
         try dsimp only at H
         have A50 := Aside0.mk A500
         clear A500
         obtain ⟨y282, hy282⟩ : ∃ y_ : List Int, y_ = (([0, 0, 0, 0, 0, t278, wrap64 (1 + t280), 1, 2, 3] : List Int)) := ⟨_, rfl⟩
         replace H : (if 0 ≤ x5_5 then (if x5_5 < (y282.length : Int) then (if x5_5 = 6 then ((some (([(⟨#[108, 101, 110, 103, 116, 104]⟩ : ByteArray), (⟨#[117, 112, 112, 101, 114]⟩ : ByteArray), (⟨#[109, 105, 110]⟩ : ByteArray), (⟨#[109, 97, 120]⟩ : ByteArray), (⟨#[102, 105, 114, 115, 116]⟩ : ByteArray), (⟨#[114, 101, 118, 101, 114, 115, 101]⟩ : ByteArray), (⟨#[99, 111, 110, 116, 97, 105, 110, 115]⟩ : ByteArray), (⟨#[106, 111, 105, 110]⟩ : ByteArray), (⟨#[102]⟩ : ByteArray)] : List ByteArray) : List ByteArray)).bind fun y286 => ((spec_l20Rd_pick.f kj5 s0_0 t281 9).bind fun bt289 => (if 0 ≤ bt289.1 then (if bt289.1 < (y286.length : Int) then (spec_l20Cells.j1 kj5 a1 x5_5 (rd y282 x5_5) (rdOf ByteArray.empty y286 bt289.1) s0_0 bt289.2) else (none)) else (none)))) else (if x5_5 = 7 then ((some (([(⟨#[33]⟩ : ByteArray), (⟨#[45]⟩ : ByteArray)] : List ByteArray) : List ByteArray)).bind fun y292 => ((spec_l20Rd_pick.f kj5 s0_0 t281 2).bind fun bt295 => (if 0 ≤ bt295.1 then (if bt295.1 < (y292.length : Int) then (spec_l20Cells.j1 kj5 a1 x5_5 (rd y282 x5_5) (rdOf ByteArray.empty y292 bt295.1) s0_0 bt295.2) else (none)) else (none)))) else (if x5_5 = 8 then ((some (([(⟨#[124, 124]⟩ : ByteArray), (⟨#[38, 38]⟩ : ByteArray), (⟨#[61, 61]⟩ : ByteArray), (⟨#[33, 61]⟩ : ByteArray), (⟨#[60]⟩ : ByteArray), (⟨#[60, 61]⟩ : ByteArray), (⟨#[62]⟩ : ByteArray), (⟨#[62, 61]⟩ : ByteArray), (⟨#[43]⟩ : ByteArray), (⟨#[45]⟩ : ByteArray), (⟨#[42]⟩ : ByteArray), (⟨#[47]⟩ : ByteArray), (⟨#[37]⟩ : ByteArray), (⟨#[38, 38]⟩ : ByteArray), (⟨#[43]⟩ : ByteArray)] : List ByteArray) : List ByteArray)).bind fun y298 => ((spec_l20Rd_pick.f kj5 s0_0 t281 15).bind fun bt301 => (if 0 ≤ bt301.1 then (if bt301.1 < (y298.length : Int) then (spec_l20Cells.j1 kj5 a1 x5_5 (rd y282 x5_5) (rdOf ByteArray.empty y298 bt301.1) s0_0 bt301.2) else (none)) else (none)))) else (spec_l20Cells.j1 kj5 a1 x5_5 (rd y282 x5_5) (⟨#[]⟩ : ByteArray) s0_0 t281)))) else (none)) else (none)) = some (r1, r2) := by first | (rw [hy282]; with_reducible exact H) | (have H2_ := (Option.bind_some _ _).symm.trans H; rw [hy282]; with_reducible exact H2_) | (have H2_ := (Option.bind_some _ _).symm.trans H; with_reducible exact H2_) | with_reducible exact H | (rw [hy282]; exact H) | exact H
         have Ny282 := Aside0.mk hy282
         clear hy282
         by_cases c51 : 0 ≤ x5_5
         ·rw [if_pos c51] at H
          have c51b0 : decide (0 ≤ x5_5) = true := decide_eq_true c51
          clear c51
          by_cases c52 : x5_5 < (y282.length : Int)
          ·rw [if_pos c52] at H
           have c52b0 : decide (x5_5 < (y282.length : Int)) = true := decide_eq_true c52
           clear c52
           have HC53 := Aside0.mk H
           clear H
           go_upto_block 1 with (first | ((with_reducible refine gate_callee (f := 30) rfl ?_); refine goesL_ (some 55) rfl rfl Tryz.func30 (by kernel_rfl) rfl #[.pointer (some ⟨g, 0, none⟩), .int .i64 3] rfl (zz11_3_) ?_; (with_reducible refine (spec_l20Rd_pick.calls kj5 g s0_0 x1001_5 3 t278 t279 w0 _ ?side1 ?side2 A49.out).mono ?_); (case side1 => exact zz11_1_ HI0.out); (case side2 => exact zz11_2_ HB.out HI0.out); rintro e w54 ⟨rfl, hi, hb, hk⟩; refine ⟨_, rfl, ?_⟩; have n0_ := Aside0.mk (KeepBut.trans (zz11_0_ HK.out) hk (.inl rfl)); have n1_ := Aside0.mk (hb); have n2_ := Aside0.mk (hi); clear HK; clear HB; clear HI0; have HK := n0_; have HB := n1_; have HI0 := n2_; clear n0_ n1_ n2_; (try clear hb); (try clear hb2); (try clear hk); (try clear hi)) | ((with_reducible refine gate_callee (f := 30) rfl ?_); refine goesL_ (some 57) rfl rfl Tryz.func30 (by kernel_rfl) rfl #[.pointer (some ⟨g, 0, none⟩), .int .i64 2] rfl (zz11_3_) ?_; (with_reducible refine (spec_l20Rd_pick.calls kj5 g s0_0 t279 2 t280 t281 w0 _ ?side1 ?side2 A50.out).mono ?_); (case side1 => exact zz11_1_ HI0.out); (case side2 => exact zz11_2_ HB.out HI0.out); rintro e w55 ⟨rfl, hi, hb, hk⟩; refine ⟨_, rfl, ?_⟩; have n0_ := Aside0.mk (KeepBut.trans (zz11_0_ HK.out) hk (.inl rfl)); have n1_ := Aside0.mk (hb); have n2_ := Aside0.mk (hi); clear HK; clear HB; clear HI0; have HK := n0_; have HB := n1_; have HI0 := n2_; clear n0_ n1_ n2_; (try clear hb); (try clear hb2); (try clear hk); (try clear hi)) | ((with_reducible refine gate_dst (N := 59) rfl ?_); refine Kd.R_lit (Kd.int .i64) _ 3 ?hg (N := 59) ?hd (xs := ([0, 0, 0, 0, 0, t278, wrap64 (1 + t280), 1, 2, 3] : List Int)) (inner := [.int .i64 0, .int .i64 0, .int .i64 0, .int .i64 0, .int .i64 0, .int .i64 t278, .int .i64 (wrap64 (1 + t280)), .int .i64 1, .int .i64 2, .int .i64 3]) (ok := fun _ => True) (okp := fun _ => True) ?hr ?hp (fun _ hk => hk) trivial (Below.refl _ _) (Nat.le_refl _) (by simp) ?_; (case hd => rfl); (case hg => rfl); (case hr => first | (go_simp; done) | (go_simp; rfl)); (case hp => exact (Reps.one (show Kd.M (Kd.int .i64) _ _ _ 0 [.int .i64 0] from rfl) (Reps.one (show Kd.M (Kd.int .i64) _ _ _ 0 [.int .i64 0] from rfl) (Reps.one (show Kd.M (Kd.int .i64) _ _ _ 0 [.int .i64 0] from rfl) (Reps.one (show Kd.M (Kd.int .i64) _ _ _ 0 [.int .i64 0] from rfl) (Reps.one (show Kd.M (Kd.int .i64) _ _ _ 0 [.int .i64 0] from rfl) (Reps.one (show Kd.M (Kd.int .i64) _ _ _ t278 [.int .i64 t278] from rfl) (Reps.one (show Kd.M (Kd.int .i64) _ _ _ (wrap64 (1 + t280)) [.int .i64 (wrap64 (1 + t280))] from rfl) (Reps.one (show Kd.M (Kd.int .i64) _ _ _ 1 [.int .i64 1] from rfl) (Reps.one (show Kd.M (Kd.int .i64) _ _ _ 2 [.int .i64 2] from rfl) (Reps.one (show Kd.M (Kd.int .i64) _ _ _ 3 [.int .i64 3] from rfl) (Reps.none _ _)))))))))))); intro v283 w56 ho57 hb hg_ hnew_; clear hg_ hnew_; (first | rw [← Ny282.out] at ho57 | (simp only [Int.reduceToNat] at ho57; rw [← Ny282.out] at ho57)); have n0_ := Aside0.mk (Kd.R_lower ho57 (keep_size (w := w) (g := g) (row := none) (zz11_0_ HK.out))); have n1_ := Aside0.mk (IsS47.below (zz11_1_ HI0.out) hb); have n2_ := Aside0.mk (KeepBut.trans (zz11_0_ HK.out) (KeepBut.of_below hb g none) (.inl rfl)); have n3_ := Aside0.mk (below_step (zz11_2_ HB.out HI0.out) hb); clear HI0; clear HK; clear HB; have HO284 := n0_; have HI0 := n1_; have HK := n2_; have HB := n3_; clear n0_ n1_ n2_ n3_; clear hb ho57; obtain ⟨Ao58, co58, eo58⟩ := Kd.R_slice HO284.out; subst eo58; have p285 : 0 ≤ (x5_5 : Int) := of_decide_eq_true (zz11_5_); have q285 : x5_5 < (y282.length : Int) := of_decide_eq_true (zz11_5_); obtain ⟨ad285, e285, hx285_0⟩ := Kd.at_int (Kd.R_reads' HO284.out).2.2 x5_5 p285 q285; cases e285; replace p285 := eq_true p285; replace q285 := eq_true q285))
           (try simp only [Act.put, List.setIfInBounds_toArray, List.set_cons_zero, List.set_cons_succ])
           go_cut [7] (fun v7 wc => ∃ (kq : Nat) (x7_52 : ByteArray) (x1001_52 : Int), v7 = .string x7_52 ∧ Aside0 (spec_l20Cells.j1 kq a1 x5_5 (rd y282 x5_5) x7_52 s0_0 x1001_52 = some (r1, r2)) ∧ Aside0 (kq ≤ kj5) ∧ Aside0 (IsS47 w0 wc g s0_0 x1001_52) ∧ Aside0 (KeepBut w wc g none) ∧ Aside0 (Below w0.heap.size w0 wc))
           case first =>
            have H := HC53.out
            clear HC53
            by_cases c59 : x5_5 = 6
            ·rw [if_pos c59] at H
             have c59b0 : (x5_5 == 6) = true := beq_iff_eq.mpr c59
             have c59b1 : (x5_5 != 6) = false := bne_eq_false_iff_eq.mpr c59
             clear c59
             (first | rw [c59b0] | (simp only [i64_w, i32_w]; rw [c59b0]) | skip)
             obtain ⟨y286, hy286⟩ : ∃ y_ : List ByteArray, y_ = (([(⟨#[108, 101, 110, 103, 116, 104]⟩ : ByteArray), (⟨#[117, 112, 112, 101, 114]⟩ : ByteArray), (⟨#[109, 105, 110]⟩ : ByteArray), (⟨#[109, 97, 120]⟩ : ByteArray), (⟨#[102, 105, 114, 115, 116]⟩ : ByteArray), (⟨#[114, 101, 118, 101, 114, 115, 101]⟩ : ByteArray), (⟨#[99, 111, 110, 116, 97, 105, 110, 115]⟩ : ByteArray), (⟨#[106, 111, 105, 110]⟩ : ByteArray), (⟨#[102]⟩ : ByteArray)] : List ByteArray)) := ⟨_, rfl⟩
             replace H : ((spec_l20Rd_pick.f kj5 s0_0 t281 9).bind fun bt289 => (if 0 ≤ bt289.1 then (if bt289.1 < (y286.length : Int) then (spec_l20Cells.j1 kj5 a1 x5_5 (rd y282 x5_5) (rdOf ByteArray.empty y286 bt289.1) s0_0 bt289.2) else (none)) else (none))) = some (r1, r2) := by first | (rw [hy286]; with_reducible exact H) | (have H2_ := (Option.bind_some _ _).symm.trans H; rw [hy286]; with_reducible exact H2_) | (have H2_ := (Option.bind_some _ _).symm.trans H; with_reducible exact H2_) | with_reducible exact H | (rw [hy286]; exact H) | exact H
             have Ny286 := Aside0.mk hy286
             clear hy286
             replace H := Option.bind_eq_some_iff.mp H
             obtain ⟨⟨t289, t290⟩, A600, H⟩ := H
             try dsimp only at H
             have A60 := Aside0.mk A600
             clear A600
             by_cases c61 : 0 ≤ t289
             ·rw [if_pos c61] at H
              have c61b0 : decide (0 ≤ t289) = true := decide_eq_true c61
              clear c61
              by_cases c62 : t289 < (y286.length : Int)
              ·rw [if_pos c62] at H
               have c62b0 : decide (t289 < (y286.length : Int)) = true := decide_eq_true c62
               clear c62
               have H' := Aside0.mk H
               clear H
               go_wp2_with (first | ((with_reducible refine gate_dst (N := 66) rfl ?_); refine Kd.R_lit Kd.string _ 9 ?hg (N := 66) ?hd (xs := ([(⟨#[108, 101, 110, 103, 116, 104]⟩ : ByteArray), (⟨#[117, 112, 112, 101, 114]⟩ : ByteArray), (⟨#[109, 105, 110]⟩ : ByteArray), (⟨#[109, 97, 120]⟩ : ByteArray), (⟨#[102, 105, 114, 115, 116]⟩ : ByteArray), (⟨#[114, 101, 118, 101, 114, 115, 101]⟩ : ByteArray), (⟨#[99, 111, 110, 116, 97, 105, 110, 115]⟩ : ByteArray), (⟨#[106, 111, 105, 110]⟩ : ByteArray), (⟨#[102]⟩ : ByteArray)] : List ByteArray)) (inner := [.string (⟨#[108, 101, 110, 103, 116, 104]⟩ : ByteArray), .string (⟨#[117, 112, 112, 101, 114]⟩ : ByteArray), .string (⟨#[109, 105, 110]⟩ : ByteArray), .string (⟨#[109, 97, 120]⟩ : ByteArray), .string (⟨#[102, 105, 114, 115, 116]⟩ : ByteArray), .string (⟨#[114, 101, 118, 101, 114, 115, 101]⟩ : ByteArray), .string (⟨#[99, 111, 110, 116, 97, 105, 110, 115]⟩ : ByteArray), .string (⟨#[106, 111, 105, 110]⟩ : ByteArray), .string (⟨#[102]⟩ : ByteArray)]) (ok := fun _ => True) (okp := fun _ => True) ?hr ?hp (fun _ hk => hk) trivial (Below.refl _ _) (Nat.le_refl _) (by simp) ?_; (case hd => rfl); (case hg => rfl); (case hr => first | (go_simp; done) | (go_simp; rfl)); (case hp => exact (Reps.one (show Kd.M Kd.string _ _ _ (⟨#[108, 101, 110, 103, 116, 104]⟩ : ByteArray) [.string (⟨#[108, 101, 110, 103, 116, 104]⟩ : ByteArray)] from rfl) (Reps.one (show Kd.M Kd.string _ _ _ (⟨#[117, 112, 112, 101, 114]⟩ : ByteArray) [.string (⟨#[117, 112, 112, 101, 114]⟩ : ByteArray)] from rfl) (Reps.one (show Kd.M Kd.string _ _ _ (⟨#[109, 105, 110]⟩ : ByteArray) [.string (⟨#[109, 105, 110]⟩ : ByteArray)] from rfl) (Reps.one (show Kd.M Kd.string _ _ _ (⟨#[109, 97, 120]⟩ : ByteArray) [.string (⟨#[109, 97, 120]⟩ : ByteArray)] from rfl) (Reps.one (show Kd.M Kd.string _ _ _ (⟨#[102, 105, 114, 115, 116]⟩ : ByteArray) [.string (⟨#[102, 105, 114, 115, 116]⟩ : ByteArray)] from rfl) (Reps.one (show Kd.M Kd.string _ _ _ (⟨#[114, 101, 118, 101, 114, 115, 101]⟩ : ByteArray) [.string (⟨#[114, 101, 118, 101, 114, 115, 101]⟩ : ByteArray)] from rfl) (Reps.one (show Kd.M Kd.string _ _ _ (⟨#[99, 111, 110, 116, 97, 105, 110, 115]⟩ : ByteArray) [.string (⟨#[99, 111, 110, 116, 97, 105, 110, 115]⟩ : ByteArray)] from rfl) (Reps.one (show Kd.M Kd.string _ _ _ (⟨#[106, 111, 105, 110]⟩ : ByteArray) [.string (⟨#[106, 111, 105, 110]⟩ : ByteArray)] from rfl) (Reps.one (show Kd.M Kd.string _ _ _ (⟨#[102]⟩ : ByteArray) [.string (⟨#[102]⟩ : ByteArray)] from rfl) (Reps.none _ _))))))))))); intro v287 w63 ho64 hb hg_ hnew_; clear hg_ hnew_; (first | rw [← Ny286.out] at ho64 | (simp only [Int.reduceToNat] at ho64; rw [← Ny286.out] at ho64)); have n0_ := Aside0.mk (Kd.R_below (zz11_4_ HO284.out) hb); have n1_ := Aside0.mk (Kd.R_lower ho64 (keep_size (w := w) (g := g) (row := none) (zz11_0_ HK.out))); have n2_ := Aside0.mk (IsS47.below (zz11_1_ HI0.out) hb); have n3_ := Aside0.mk (KeepBut.trans (zz11_0_ HK.out) (KeepBut.of_below hb g none) (.inl rfl)); have n4_ := Aside0.mk (below_step (zz11_2_ HB.out HI0.out) hb); clear HO284; clear HI0; clear HK; clear HB; have HO284 := n0_; have HO288 := n1_; have HI0 := n2_; have HK := n3_; have HB := n4_; clear n0_ n1_ n2_ n3_ n4_; clear hb ho64) | ((with_reducible refine gate_callee (f := 30) rfl ?_); refine goesL_ (some 68) rfl rfl Tryz.func30 (by kernel_rfl) rfl #[.pointer (some ⟨g, 0, none⟩), .int .i64 9] rfl (zz11_3_) ?_; (with_reducible refine (spec_l20Rd_pick.calls kj5 g s0_0 t281 9 t289 t290 w0 _ ?side1 ?side2 A60.out).mono ?_); (case side1 => exact zz11_1_ HI0.out); (case side2 => exact zz11_2_ HB.out HI0.out); rintro e w65 ⟨rfl, hi, hb, hk⟩; refine ⟨_, rfl, ?_⟩; have n0_ := Aside0.mk (Kd.R_mono (Kd.R_keep (IsS47.apart (show IsS47 w0 _ g s0_0 t281 from by repeat (first | (with_reducible first | exact HI0.out | apply IsS47.alloc | apply IsS47.drewN | apply IsS47.drew | apply IsS47.set_1) | exact HI0.out)) (zz11_4_ HO284.out) (by decide)) hk (fun _ h => h.2)) (fun _ h => h.1)); have n1_ := Aside0.mk (Kd.R_mono (Kd.R_keep (IsS47.apart (show IsS47 w0 _ g s0_0 t281 from by repeat (first | (with_reducible first | exact HI0.out | apply IsS47.alloc | apply IsS47.drewN | apply IsS47.drew | apply IsS47.set_1) | exact HI0.out)) (zz11_4_ HO288.out) (by decide)) hk (fun _ h => h.2)) (fun _ h => h.1)); have n2_ := Aside0.mk (KeepBut.trans (zz11_0_ HK.out) hk (.inl rfl)); have n3_ := Aside0.mk (hb); have n4_ := Aside0.mk (hi); clear HO284; clear HO288; clear HK; clear HB; clear HI0; have HO284 := n0_; have HO288 := n1_; have HK := n2_; have HB := n3_; have HI0 := n4_; clear n0_ n1_ n2_ n3_ n4_; (try clear hb); (try clear hb2); (try clear hk); (try clear hi); obtain ⟨Ao66, co66, eo66⟩ := Kd.R_slice HO288.out; subst eo66; have p291 : 0 ≤ (t289 : Int) := of_decide_eq_true (zz11_5_); have q291 : t289 < (y286.length : Int) := of_decide_eq_true (zz11_5_); obtain ⟨ad291, e291, hx291_0⟩ := Kd.at_string (Kd.R_reads' HO288.out).2.2 t289 p291 q291; cases e291; replace p291 := eq_true p291; replace q291 := eq_true q291))
               go_meet
               case rel => exact ⟨_, (rdOf ByteArray.empty y286 t289), (t290), (by first | rfl | (simp; done) | (simp [*]; done)), H', ⟨by have := HJ5.out; first | omega | exact Nat.le_refl _⟩, ⟨zz11_1_ HI0.out⟩, ⟨zz11_0_ HK.out⟩, ⟨zz11_2_ HB.out HI0.out⟩⟩
              ·rw [if_neg c62] at H
               exact absurd H (by simp)
             ·rw [if_neg c61] at H
              exact absurd H (by simp)
            ·rw [if_neg c59] at H
             have c59b0 : (x5_5 == 6) = false := beq_eq_false_iff_ne.mpr c59
             have c59b1 : (x5_5 != 6) = true := bne_iff_ne.mpr c59
             (first | rw [c59b0] | (simp only [i64_w, i32_w]; rw [c59b0]) | skip)
             by_cases c67 : x5_5 = 7
             ·rw [if_pos c67] at H
              have c67b0 : (x5_5 == 7) = true := beq_iff_eq.mpr c67
              have c67b1 : (x5_5 != 7) = false := bne_eq_false_iff_eq.mpr c67
              clear c67
              obtain ⟨y292, hy292⟩ : ∃ y_ : List ByteArray, y_ = (([(⟨#[33]⟩ : ByteArray), (⟨#[45]⟩ : ByteArray)] : List ByteArray)) := ⟨_, rfl⟩
              replace H : ((spec_l20Rd_pick.f kj5 s0_0 t281 2).bind fun bt295 => (if 0 ≤ bt295.1 then (if bt295.1 < (y292.length : Int) then (spec_l20Cells.j1 kj5 a1 x5_5 (rd y282 x5_5) (rdOf ByteArray.empty y292 bt295.1) s0_0 bt295.2) else (none)) else (none))) = some (r1, r2) := by first | (rw [hy292]; with_reducible exact H) | (have H2_ := (Option.bind_some _ _).symm.trans H; rw [hy292]; with_reducible exact H2_) | (have H2_ := (Option.bind_some _ _).symm.trans H; with_reducible exact H2_) | with_reducible exact H | (rw [hy292]; exact H) | exact H
              have Ny292 := Aside0.mk hy292
              clear hy292
              replace H := Option.bind_eq_some_iff.mp H
              obtain ⟨⟨t295, t296⟩, A680, H⟩ := H
              try dsimp only at H
              have A68 := Aside0.mk A680
              clear A680
              by_cases c69 : 0 ≤ t295
              ·rw [if_pos c69] at H
               have c69b0 : decide (0 ≤ t295) = true := decide_eq_true c69
               clear c69
               by_cases c70 : t295 < (y292.length : Int)
               ·rw [if_pos c70] at H
                have c70b0 : decide (t295 < (y292.length : Int)) = true := decide_eq_true c70
                clear c70
                have H' := Aside0.mk H
                clear H
                go_wp2_with (first | ((with_reducible refine gate_dst (N := 73) rfl ?_); refine Kd.R_lit Kd.string _ 9 ?hg (N := 73) ?hd (xs := ([(⟨#[33]⟩ : ByteArray), (⟨#[45]⟩ : ByteArray)] : List ByteArray)) (inner := [.string (⟨#[33]⟩ : ByteArray), .string (⟨#[45]⟩ : ByteArray)]) (ok := fun _ => True) (okp := fun _ => True) ?hr ?hp (fun _ hk => hk) trivial (Below.refl _ _) (Nat.le_refl _) (by simp) ?_; (case hd => rfl); (case hg => rfl); (case hr => first | (go_simp; done) | (go_simp; rfl)); (case hp => exact (Reps.one (show Kd.M Kd.string _ _ _ (⟨#[33]⟩ : ByteArray) [.string (⟨#[33]⟩ : ByteArray)] from rfl) (Reps.one (show Kd.M Kd.string _ _ _ (⟨#[45]⟩ : ByteArray) [.string (⟨#[45]⟩ : ByteArray)] from rfl) (Reps.none _ _)))); intro v293 w71 ho72 hb hg_ hnew_; clear hg_ hnew_; (first | rw [← Ny292.out] at ho72 | (simp only [Int.reduceToNat] at ho72; rw [← Ny292.out] at ho72)); have n0_ := Aside0.mk (Kd.R_below (zz11_4_ HO284.out) hb); have n1_ := Aside0.mk (Kd.R_lower ho72 (keep_size (w := w) (g := g) (row := none) (zz11_0_ HK.out))); have n2_ := Aside0.mk (IsS47.below (zz11_1_ HI0.out) hb); have n3_ := Aside0.mk (KeepBut.trans (zz11_0_ HK.out) (KeepBut.of_below hb g none) (.inl rfl)); have n4_ := Aside0.mk (below_step (zz11_2_ HB.out HI0.out) hb); clear HO284; clear HI0; clear HK; clear HB; have HO284 := n0_; have HO294 := n1_; have HI0 := n2_; have HK := n3_; have HB := n4_; clear n0_ n1_ n2_ n3_ n4_; clear hb ho72) | ((with_reducible refine gate_callee (f := 30) rfl ?_); refine goesL_ (some 75) rfl rfl Tryz.func30 (by kernel_rfl) rfl #[.pointer (some ⟨g, 0, none⟩), .int .i64 2] rfl (zz11_3_) ?_; (with_reducible refine (spec_l20Rd_pick.calls kj5 g s0_0 t281 2 t295 t296 w0 _ ?side1 ?side2 A68.out).mono ?_); (case side1 => exact zz11_1_ HI0.out); (case side2 => exact zz11_2_ HB.out HI0.out); rintro e w73 ⟨rfl, hi, hb, hk⟩; refine ⟨_, rfl, ?_⟩; have n0_ := Aside0.mk (Kd.R_mono (Kd.R_keep (IsS47.apart (show IsS47 w0 _ g s0_0 t281 from by repeat (first | (with_reducible first | exact HI0.out | apply IsS47.alloc | apply IsS47.drewN | apply IsS47.drew | apply IsS47.set_1) | exact HI0.out)) (zz11_4_ HO284.out) (by decide)) hk (fun _ h => h.2)) (fun _ h => h.1)); have n1_ := Aside0.mk (Kd.R_mono (Kd.R_keep (IsS47.apart (show IsS47 w0 _ g s0_0 t281 from by repeat (first | (with_reducible first | exact HI0.out | apply IsS47.alloc | apply IsS47.drewN | apply IsS47.drew | apply IsS47.set_1) | exact HI0.out)) (zz11_4_ HO294.out) (by decide)) hk (fun _ h => h.2)) (fun _ h => h.1)); have n2_ := Aside0.mk (KeepBut.trans (zz11_0_ HK.out) hk (.inl rfl)); have n3_ := Aside0.mk (hb); have n4_ := Aside0.mk (hi); clear HO284; clear HO294; clear HK; clear HB; clear HI0; have HO284 := n0_; have HO294 := n1_; have HK := n2_; have HB := n3_; have HI0 := n4_; clear n0_ n1_ n2_ n3_ n4_; (try clear hb); (try clear hb2); (try clear hk); (try clear hi); obtain ⟨Ao74, co74, eo74⟩ := Kd.R_slice HO294.out; subst eo74; have p297 : 0 ≤ (t295 : Int) := of_decide_eq_true (zz11_5_); have q297 : t295 < (y292.length : Int) := of_decide_eq_true (zz11_5_); obtain ⟨ad297, e297, hx297_0⟩ := Kd.at_string (Kd.R_reads' HO294.out).2.2 t295 p297 q297; cases e297; replace p297 := eq_true p297; replace q297 := eq_true q297))
                go_meet
                case rel => exact ⟨_, (rdOf ByteArray.empty y292 t295), (t296), (by first | rfl | (simp; done) | (simp [*]; done)), H', ⟨by have := HJ5.out; first | omega | exact Nat.le_refl _⟩, ⟨zz11_1_ HI0.out⟩, ⟨zz11_0_ HK.out⟩, ⟨zz11_2_ HB.out HI0.out⟩⟩
               ·rw [if_neg c70] at H
                exact absurd H (by simp)
              ·rw [if_neg c69] at H
               exact absurd H (by simp)
             ·rw [if_neg c67] at H
              have c67b0 : (x5_5 == 7) = false := beq_eq_false_iff_ne.mpr c67
              have c67b1 : (x5_5 != 7) = true := bne_iff_ne.mpr c67
              by_cases c75 : x5_5 = 8
              ·rw [if_pos c75] at H
               have c75b0 : (x5_5 == 8) = true := beq_iff_eq.mpr c75
               have c75b1 : (x5_5 != 8) = false := bne_eq_false_iff_eq.mpr c75
               clear c75
               obtain ⟨y298, hy298⟩ : ∃ y_ : List ByteArray, y_ = (([(⟨#[124, 124]⟩ : ByteArray), (⟨#[38, 38]⟩ : ByteArray), (⟨#[61, 61]⟩ : ByteArray), (⟨#[33, 61]⟩ : ByteArray), (⟨#[60]⟩ : ByteArray), (⟨#[60, 61]⟩ : ByteArray), (⟨#[62]⟩ : ByteArray), (⟨#[62, 61]⟩ : ByteArray), (⟨#[43]⟩ : ByteArray), (⟨#[45]⟩ : ByteArray), (⟨#[42]⟩ : ByteArray), (⟨#[47]⟩ : ByteArray), (⟨#[37]⟩ : ByteArray), (⟨#[38, 38]⟩ : ByteArray), (⟨#[43]⟩ : ByteArray)] : List ByteArray)) := ⟨_, rfl⟩
               replace H : ((spec_l20Rd_pick.f kj5 s0_0 t281 15).bind fun bt301 => (if 0 ≤ bt301.1 then (if bt301.1 < (y298.length : Int) then (spec_l20Cells.j1 kj5 a1 x5_5 (rd y282 x5_5) (rdOf ByteArray.empty y298 bt301.1) s0_0 bt301.2) else (none)) else (none))) = some (r1, r2) := by first | (rw [hy298]; with_reducible exact H) | (have H2_ := (Option.bind_some _ _).symm.trans H; rw [hy298]; with_reducible exact H2_) | (have H2_ := (Option.bind_some _ _).symm.trans H; with_reducible exact H2_) | with_reducible exact H | (rw [hy298]; exact H) | exact H
               have Ny298 := Aside0.mk hy298
               clear hy298
               replace H := Option.bind_eq_some_iff.mp H
               obtain ⟨⟨t301, t302⟩, A760, H⟩ := H
               try dsimp only at H
               have A76 := Aside0.mk A760
               clear A760
               by_cases c77 : 0 ≤ t301
               ·rw [if_pos c77] at H
                have c77b0 : decide (0 ≤ t301) = true := decide_eq_true c77
                clear c77
                by_cases c78 : t301 < (y298.length : Int)
                ·rw [if_pos c78] at H
                 have c78b0 : decide (t301 < (y298.length : Int)) = true := decide_eq_true c78
                 clear c78
                 have H' := Aside0.mk H
                 clear H
                 go_wp2_with (first | ((with_reducible refine gate_dst (N := 80) rfl ?_); refine Kd.R_lit Kd.string _ 9 ?hg (N := 80) ?hd (xs := ([(⟨#[124, 124]⟩ : ByteArray), (⟨#[38, 38]⟩ : ByteArray), (⟨#[61, 61]⟩ : ByteArray), (⟨#[33, 61]⟩ : ByteArray), (⟨#[60]⟩ : ByteArray), (⟨#[60, 61]⟩ : ByteArray), (⟨#[62]⟩ : ByteArray), (⟨#[62, 61]⟩ : ByteArray), (⟨#[43]⟩ : ByteArray), (⟨#[45]⟩ : ByteArray), (⟨#[42]⟩ : ByteArray), (⟨#[47]⟩ : ByteArray), (⟨#[37]⟩ : ByteArray), (⟨#[38, 38]⟩ : ByteArray), (⟨#[43]⟩ : ByteArray)] : List ByteArray)) (inner := [.string (⟨#[124, 124]⟩ : ByteArray), .string (⟨#[38, 38]⟩ : ByteArray), .string (⟨#[61, 61]⟩ : ByteArray), .string (⟨#[33, 61]⟩ : ByteArray), .string (⟨#[60]⟩ : ByteArray), .string (⟨#[60, 61]⟩ : ByteArray), .string (⟨#[62]⟩ : ByteArray), .string (⟨#[62, 61]⟩ : ByteArray), .string (⟨#[43]⟩ : ByteArray), .string (⟨#[45]⟩ : ByteArray), .string (⟨#[42]⟩ : ByteArray), .string (⟨#[47]⟩ : ByteArray), .string (⟨#[37]⟩ : ByteArray), .string (⟨#[38, 38]⟩ : ByteArray), .string (⟨#[43]⟩ : ByteArray)]) (ok := fun _ => True) (okp := fun _ => True) ?hr ?hp (fun _ hk => hk) trivial (Below.refl _ _) (Nat.le_refl _) (by simp) ?_; (case hd => rfl); (case hg => rfl); (case hr => first | (go_simp; done) | (go_simp; rfl)); (case hp => exact (Reps.one (show Kd.M Kd.string _ _ _ (⟨#[124, 124]⟩ : ByteArray) [.string (⟨#[124, 124]⟩ : ByteArray)] from rfl) (Reps.one (show Kd.M Kd.string _ _ _ (⟨#[38, 38]⟩ : ByteArray) [.string (⟨#[38, 38]⟩ : ByteArray)] from rfl) (Reps.one (show Kd.M Kd.string _ _ _ (⟨#[61, 61]⟩ : ByteArray) [.string (⟨#[61, 61]⟩ : ByteArray)] from rfl) (Reps.one (show Kd.M Kd.string _ _ _ (⟨#[33, 61]⟩ : ByteArray) [.string (⟨#[33, 61]⟩ : ByteArray)] from rfl) (Reps.one (show Kd.M Kd.string _ _ _ (⟨#[60]⟩ : ByteArray) [.string (⟨#[60]⟩ : ByteArray)] from rfl) (Reps.one (show Kd.M Kd.string _ _ _ (⟨#[60, 61]⟩ : ByteArray) [.string (⟨#[60, 61]⟩ : ByteArray)] from rfl) (Reps.one (show Kd.M Kd.string _ _ _ (⟨#[62]⟩ : ByteArray) [.string (⟨#[62]⟩ : ByteArray)] from rfl) (Reps.one (show Kd.M Kd.string _ _ _ (⟨#[62, 61]⟩ : ByteArray) [.string (⟨#[62, 61]⟩ : ByteArray)] from rfl) (Reps.one (show Kd.M Kd.string _ _ _ (⟨#[43]⟩ : ByteArray) [.string (⟨#[43]⟩ : ByteArray)] from rfl) (Reps.one (show Kd.M Kd.string _ _ _ (⟨#[45]⟩ : ByteArray) [.string (⟨#[45]⟩ : ByteArray)] from rfl) (Reps.one (show Kd.M Kd.string _ _ _ (⟨#[42]⟩ : ByteArray) [.string (⟨#[42]⟩ : ByteArray)] from rfl) (Reps.one (show Kd.M Kd.string _ _ _ (⟨#[47]⟩ : ByteArray) [.string (⟨#[47]⟩ : ByteArray)] from rfl) (Reps.one (show Kd.M Kd.string _ _ _ (⟨#[37]⟩ : ByteArray) [.string (⟨#[37]⟩ : ByteArray)] from rfl) (Reps.one (show Kd.M Kd.string _ _ _ (⟨#[38, 38]⟩ : ByteArray) [.string (⟨#[38, 38]⟩ : ByteArray)] from rfl) (Reps.one (show Kd.M Kd.string _ _ _ (⟨#[43]⟩ : ByteArray) [.string (⟨#[43]⟩ : ByteArray)] from rfl) (Reps.none _ _))))))))))))))))); intro v299 w79 ho80 hb hg_ hnew_; clear hg_ hnew_; (first | rw [← Ny298.out] at ho80 | (simp only [Int.reduceToNat] at ho80; rw [← Ny298.out] at ho80)); have n0_ := Aside0.mk (Kd.R_below (zz11_4_ HO284.out) hb); have n1_ := Aside0.mk (Kd.R_lower ho80 (keep_size (w := w) (g := g) (row := none) (zz11_0_ HK.out))); have n2_ := Aside0.mk (IsS47.below (zz11_1_ HI0.out) hb); have n3_ := Aside0.mk (KeepBut.trans (zz11_0_ HK.out) (KeepBut.of_below hb g none) (.inl rfl)); have n4_ := Aside0.mk (below_step (zz11_2_ HB.out HI0.out) hb); clear HO284; clear HI0; clear HK; clear HB; have HO284 := n0_; have HO300 := n1_; have HI0 := n2_; have HK := n3_; have HB := n4_; clear n0_ n1_ n2_ n3_ n4_; clear hb ho80) | ((with_reducible refine gate_callee (f := 30) rfl ?_); refine goesL_ (some 82) rfl rfl Tryz.func30 (by kernel_rfl) rfl #[.pointer (some ⟨g, 0, none⟩), .int .i64 15] rfl (zz11_3_) ?_; (with_reducible refine (spec_l20Rd_pick.calls kj5 g s0_0 t281 15 t301 t302 w0 _ ?side1 ?side2 A76.out).mono ?_); (case side1 => exact zz11_1_ HI0.out); (case side2 => exact zz11_2_ HB.out HI0.out); rintro e w81 ⟨rfl, hi, hb, hk⟩; refine ⟨_, rfl, ?_⟩; have n0_ := Aside0.mk (Kd.R_mono (Kd.R_keep (IsS47.apart (show IsS47 w0 _ g s0_0 t281 from by repeat (first | (with_reducible first | exact HI0.out | apply IsS47.alloc | apply IsS47.drewN | apply IsS47.drew | apply IsS47.set_1) | exact HI0.out)) (zz11_4_ HO284.out) (by decide)) hk (fun _ h => h.2)) (fun _ h => h.1)); have n1_ := Aside0.mk (Kd.R_mono (Kd.R_keep (IsS47.apart (show IsS47 w0 _ g s0_0 t281 from by repeat (first | (with_reducible first | exact HI0.out | apply IsS47.alloc | apply IsS47.drewN | apply IsS47.drew | apply IsS47.set_1) | exact HI0.out)) (zz11_4_ HO300.out) (by decide)) hk (fun _ h => h.2)) (fun _ h => h.1)); have n2_ := Aside0.mk (KeepBut.trans (zz11_0_ HK.out) hk (.inl rfl)); have n3_ := Aside0.mk (hb); have n4_ := Aside0.mk (hi); clear HO284; clear HO300; clear HK; clear HB; clear HI0; have HO284 := n0_; have HO300 := n1_; have HK := n2_; have HB := n3_; have HI0 := n4_; clear n0_ n1_ n2_ n3_ n4_; (try clear hb); (try clear hb2); (try clear hk); (try clear hi); obtain ⟨Ao82, co82, eo82⟩ := Kd.R_slice HO300.out; subst eo82; have p303 : 0 ≤ (t301 : Int) := of_decide_eq_true (zz11_5_); have q303 : t301 < (y298.length : Int) := of_decide_eq_true (zz11_5_); obtain ⟨ad303, e303, hx303_0⟩ := Kd.at_string (Kd.R_reads' HO300.out).2.2 t301 p303 q303; cases e303; replace p303 := eq_true p303; replace q303 := eq_true q303))
                 go_meet
                 case rel => exact ⟨_, (rdOf ByteArray.empty y298 t301), (t302), (by first | rfl | (simp; done) | (simp [*]; done)), H', ⟨by have := HJ5.out; first | omega | exact Nat.le_refl _⟩, ⟨zz11_1_ HI0.out⟩, ⟨zz11_0_ HK.out⟩, ⟨zz11_2_ HB.out HI0.out⟩⟩
                ·rw [if_neg c78] at H
                 exact absurd H (by simp)
               ·rw [if_neg c77] at H
                exact absurd H (by simp)
              ·rw [if_neg c75] at H
               have c75b0 : (x5_5 == 8) = false := beq_eq_false_iff_ne.mpr c75
               have c75b1 : (x5_5 != 8) = true := bne_iff_ne.mpr c75
               have H' := Aside0.mk H
               clear H
               go_wp2
               go_meet
               case rel => exact ⟨_, ((⟨#[]⟩ : ByteArray)), (t281), (by first | rfl | (simp; done) | (simp [*]; done)), H', ⟨by have := HJ5.out; first | omega | exact Nat.le_refl _⟩, ⟨zz11_1_ HI0.out⟩, ⟨zz11_0_ HK.out⟩, ⟨zz11_2_ HB.out HI0.out⟩⟩
           case rest =>
            clear HC53
            try clear c1
            try clear c2
            try clear p2
            try clear q2
            try clear hx2
            try clear c3
            try clear p3
            try clear q3
            try clear hx3
            try clear c4
            try clear c4b0
            try clear c5
            try clear c5b0
            try clear c6
            try clear p6
            try clear c7
            try clear c11
            try clear c11b0
            try clear c14
            try clear c14b0
            try clear c14b1
            try clear c16
            try clear c16b0
            try clear c17
            try clear c17b0
            try clear c24
            try clear c24b0
            try clear c24b1
            try clear p24
            try clear q24
            try clear hx24
            try clear p25
            try clear q25
            try clear hx25
            try clear c26
            try clear c26b0
            try clear p26
            try clear q26
            try clear hx26
            try clear c27
            try clear c27b0
            try clear p28
            try clear q28
            try clear hx28
            try clear p29
            try clear q29
            try clear hx29
            try clear c30
            try clear p30
            try clear q30
            try clear hx30
            try clear c34
            try clear c34b0
            try clear c34b1
            try clear c35
            try clear c36
            try clear c36b0
            try clear c37
            try clear c37b0
            try clear c44
            try clear c44b0
            try clear c44b1
            try clear c51
            try clear c51b0
            try clear c52
            try clear c52b0
            try clear c53
            try clear c59
            try clear c59b0
            try clear c59b1
            try clear c61
            try clear c61b0
            try clear c62
            try clear c62b0
            try clear p64
            try clear c67
            try clear c67b0
            try clear c67b1
            try clear c69
            try clear c69b0
            try clear c70
            try clear c70b0
            try clear c75
            try clear c75b0
            try clear c75b1
            try clear c77
            try clear c77b0
            try clear c78
            try clear c78b0
            try clear hx243_0
            try clear hx251_0
            try clear hx260_0
            try clear hx269_0
            try clear hx285_0
            try clear hx291_0
            try clear hx297_0
            try clear hx303_0
            try clear p2
            try clear p243
            try clear p251
            try clear p260
            try clear p269
            try clear p285
            try clear p291
            try clear p297
            try clear p303
            try clear p6
            try clear q2
            try clear q243
            try clear q251
            try clear q260
            try clear q269
            try clear q285
            try clear q291
            try clear q297
            try clear q303
            obtain ⟨kq, x7_52, x1001_52, rfl, HA, HJ52, HI0, HK, HB⟩ := hcut
            cases kq with
            | zero => exact absurd HA.out (by simp [spec_l20Cells.j1])
            | succ kj52 =>
             have H := HA.out
             clear HA
             simp only [spec_l20Cells.j1] at H
             obtain ⟨y304, hy304⟩ : ∃ y_ : List (S35), y_ = (([(⟨x5_5, x7_52, (rd y282 x5_5)⟩ : S35)] : List (S35))) := ⟨_, rfl⟩
             replace H : (spec_l20Cells.l0 kj52 a1 (rd y282 x5_5) y304 0 s0_0 x1001_52) = some (r1, r2) := by first | (rw [hy304]; with_reducible exact H) | (have H2_ := (Option.bind_some _ _).symm.trans H; rw [hy304]; with_reducible exact H2_) | (have H2_ := (Option.bind_some _ _).symm.trans H; with_reducible exact H2_) | with_reducible exact H | (rw [hy304]; exact H) | exact H
             have Ny304 := Aside0.mk hy304
             clear hy304
             have H' := Aside0.mk H
             clear H
             go_wp2_with (first | ((with_reducible refine gate_dst (N := 89) rfl ?_); refine Kd.R_lit k35 _ 35 ?hg (N := 89) ?hd (xs := ([(⟨x5_5, x7_52, (rd y282 x5_5)⟩ : S35)] : List (S35))) (inner := [.int .i64 x5_5, .string x7_52, .int .i64 (rd y282 x5_5)]) (ok := fun _ => True) (okp := fun _ => True) ?hr ?hp (fun _ hk => hk) trivial (Below.refl _ _) (Nat.le_refl _) (by simp) ?_; (case hd => rfl); (case hg => rfl); (case hr => first | (go_simp; done) | (go_simp; rfl)); (case hp => exact (Reps.c3 (show Kd.M k35 _ _ _ (⟨x5_5, x7_52, (rd y282 x5_5)⟩ : S35) [.int .i64 x5_5, .string x7_52, .int .i64 (rd y282 x5_5)] from (k35_mkM _ _ _ (⟨x5_5, x7_52, (rd y282 x5_5)⟩ : S35) )) (Reps.none _ _))); intro v305 w83 ho84 hb hg_ hnew_; clear hg_ hnew_; (first | rw [← Ny304.out] at ho84 | (simp only [Int.reduceToNat] at ho84; rw [← Ny304.out] at ho84)); have n0_ := Aside0.mk (Kd.R_lower ho84 (keep_size (w := w) (g := g) (row := none) (zz11_0_ HK.out))); have n1_ := Aside0.mk (IsS47.below (zz11_1_ HI0.out) hb); have n2_ := Aside0.mk (KeepBut.trans (zz11_0_ HK.out) (KeepBut.of_below hb g none) (.inl rfl)); have n3_ := Aside0.mk (below_step (zz11_2_ HB.out HI0.out) hb); clear HI0; clear HK; clear HB; have HO306 := n0_; have HI0 := n1_; have HK := n2_; have HB := n3_; clear n0_ n1_ n2_ n3_; clear hb ho84))
             go_loopg [8, 9] kj52 (fun kq v8 v9 w' => ∃ (x8_3 : List (S35)) (x9_3 : Int) (x1001_3 : Int), v9 = .int .i64 x9_3 ∧ Aside0 (spec_l20Cells.l0 kq a1 (rd y282 x5_5) x8_3 x9_3 s0_0 x1001_3 = some (r1, r2)) ∧ Aside0 (kq ≤ kj52) ∧ Aside0 (Kd.R k35 35 w' w.heap.size (fun _ => True) v8 x8_3) ∧ Aside0 (IsS47 w0 w' g s0_0 x1001_3) ∧ Aside0 (KeepBut w w' g none) ∧ Aside0 (Below w0.heap.size w0 w'))
             case atStart => exact ⟨(y304), (0), (x1001_52), (by first | rfl | (simp; done) | (simp [*]; done)), H', ⟨Nat.le_refl _⟩, ⟨zz11_4_ HO306.out⟩, ⟨zz11_1_ HI0.out⟩, ⟨zz11_0_ HK.out⟩, ⟨zz11_2_ HB.out HI0.out⟩⟩
             case round =>
              clear H'
              try clear c1
              try clear c2
              try clear p2
              try clear q2
              try clear hx2
              try clear c3
              try clear p3
              try clear q3
              try clear hx3
              try clear c4
              try clear c4b0
              try clear c5
              try clear c5b0
              try clear c6
              try clear p6
              try clear c7
              try clear c11
              try clear c11b0
              try clear c14
              try clear c14b0
              try clear c14b1
              try clear c16
              try clear c16b0
              try clear c17
              try clear c17b0
              try clear c24
              try clear c24b0
              try clear c24b1
              try clear p24
              try clear q24
              try clear hx24
              try clear p25
              try clear q25
              try clear hx25
              try clear c26
              try clear c26b0
              try clear p26
              try clear q26
              try clear hx26
              try clear c27
              try clear c27b0
              try clear p28
              try clear q28
              try clear hx28
              try clear p29
              try clear q29
              try clear hx29
              try clear c30
              try clear p30
              try clear q30
              try clear hx30
              try clear c34
              try clear c34b0
              try clear c34b1
              try clear c35
              try clear c36
              try clear c36b0
              try clear c37
              try clear c37b0
              try clear c44
              try clear c44b0
              try clear c44b1
              try clear c51
              try clear c51b0
              try clear c52
              try clear c52b0
              try clear c53
              try clear c59
              try clear c59b0
              try clear c59b1
              try clear c61
              try clear c61b0
              try clear c62
              try clear c62b0
              try clear p64
              try clear c67
              try clear c67b0
              try clear c67b1
              try clear c69
              try clear c69b0
              try clear c70
              try clear c70b0
              try clear c75
              try clear c75b0
              try clear c75b1
              try clear c77
              try clear c77b0
              try clear c78
              try clear c78b0
              try clear hx243_0
              try clear hx251_0
              try clear hx260_0
              try clear hx269_0
              try clear hx285_0
              try clear hx291_0
              try clear hx297_0
              try clear hx303_0
              try clear p2
              try clear p24
              try clear p243
              try clear p25
              try clear p251
              try clear p26
              try clear p260
              try clear p269
              try clear p28
              try clear p285
              try clear p29
              try clear p291
              try clear p297
              try clear p3
              try clear p30
              try clear p303
              try clear p6
              try clear p64
              try clear q2
              try clear q24
              try clear q243
              try clear q25
              try clear q251
              try clear q26
              try clear q260
              try clear q269
              try clear q28
              try clear q285
              try clear q29
              try clear q291
              try clear q297
              try clear q3
              try clear q30
              try clear q303
              obtain ⟨x8_3, x9_3, x1001_3, rfl, HA, HK3, HO_8, HI0, HK, HB⟩ := hrel
              cases gk with
              | zero => exact absurd HA.out (by simp [spec_l20Cells.l0])
              | succ k3 =>
               have H := HA.out
               clear HA
               simp only [spec_l20Cells.l0] at H
               by_cases c85 : x9_3 < (rd y282 x5_5)
               ·rw [if_pos c85] at H
                have c85b0 : decide (x9_3 < (rd y282 x5_5)) = true := decide_eq_true c85
                clear c85
                replace H := Option.bind_eq_some_iff.mp H
                obtain ⟨⟨t307, t310⟩, A860, H⟩ := H
                try dsimp only at H
                have A86 := Aside0.mk A860
                clear A860
                by_cases c87 : x8_3.length + t307.length < 4398046511104
                ·rw [if_pos c87] at H
                 have LMc87 := Aside0.mk c87
                 clear c87
                 obtain ⟨y311, hy311⟩ : ∃ y_ : List (S35), y_ = (x8_3 ++ t307) := ⟨_, rfl⟩
                 replace H : (spec_l20Cells.l0 k3 a1 (rd y282 x5_5) y311 (wrap64 (x9_3 + 1)) s0_0 t310) = some (r1, r2) := by first | (rw [hy311]; with_reducible exact H) | (have H2_ := (Option.bind_some _ _).symm.trans H; rw [hy311]; with_reducible exact H2_) | (have H2_ := (Option.bind_some _ _).symm.trans H; with_reducible exact H2_) | with_reducible exact H | (rw [hy311]; exact H) | exact H
                 have Ny311 := Aside0.mk hy311
                 clear hy311
                 have H' := Aside0.mk H
                 clear H
                 go_wp2_with (first | ((with_reducible refine gate_callee (f := 35) rfl ?_); refine goesL_ (some 99) rfl rfl Tryz.func35 (by kernel_rfl) rfl #[.pointer (some ⟨g, 0, none⟩), .int .i64 (wrap64 (a1 - 1))] rfl (zz11_3_) ?_; (with_reducible refine (ih k3 (by have := HJ5.out; have := HJ52.out; have := HK3.out; omega) g s0_0 x1001_3 (wrap64 (a1 - 1)) t307 t310 w0 _ ?side1 ?side2 A86.out).mono ?_); (case side1 => exact zz11_1_ HI0.out); (case side2 => exact zz11_2_ HB.out HI0.out); rintro e w88 ⟨v308, rfl, ho0, hi, hb, hk⟩; refine ⟨_, rfl, ?_⟩; have n0_ := Aside0.mk (Kd.R_mono (Kd.R_told (Kd.R_oldK (IsS47.apart (show IsS47 w0 _ g s0_0 x1001_3 from by repeat (first | (with_reducible first | exact HI0.out | apply IsS47.alloc | apply IsS47.drewN | apply IsS47.drew | apply IsS47.set_1) | exact HI0.out)) (zz11_4_ HO_8.out) (by decide)) hk) (Kd.R_base ho0)) (fun _ h_ => h_.1)); have n1_ := Aside0.mk (Kd.R_lower (Kd.R_new' ho0 (Kd.R_lt (zz11_4_ HO_8.out))) (keep_size (w := w) (g := g) (row := none) (zz11_0_ HK.out))); have n2_ := Aside0.mk (KeepBut.trans (zz11_0_ HK.out) hk (.inl rfl)); have n3_ := Aside0.mk (hb); have n4_ := Aside0.mk (hi); clear HO_8; clear HK; clear HB; clear HI0; have HO_8 := n0_; have HO309 := n1_; have HK := n2_; have HB := n3_; have HI0 := n4_; clear n0_ n1_ n2_ n3_ n4_; (try clear hb); (try clear hb2); (try clear hk); (try clear hi); (try clear ho0); obtain ⟨Ao90, co90, eo90⟩ := Kd.R_slice HO309.out; subst eo90) | ((with_reducible refine gate_builtin (b := .append) (xs := #[.tmp 95, .tmp 99]) rfl ?_); at_builtin; refine Kd.R_append_rows k35 w.heap.size rfl (.tmp 95) (.tmp 99) 23 35 (.agg #[(.int .i64 0), (.string ⟨#[]⟩), (.int .i64 0)]) 32 rfl Tryz.underlying23 info35 rfl (by decide) (by omega) u8 x8_3 t307 _ _ _ (fun k_ => some k_ ≠ (.slice Ao90 t307.length co90 : Value).ownBlock) (fun _ => False) rfl rfl ?aO ?aR (fun _ _ h => h) (fun _ h => h.elim) ?aF (Below.refl _ _) ?aS ?aL ?_; (case aR => repeat (first | exact (Kd.R_reads' HO309.out).2.2 | (with_reducible refine Kd.C_alloc ?_ _) | (with_reducible refine Kd.C_drewN ?_ _) | (with_reducible refine Kd.C_drew ?_))); (case aF => exact (fun k_ hk => Kd.fresh' (Kd.R_lt (zz11_4_ HO309.out)) k_ hk)); (case aO => exact (by (with_reducible repeat (first | apply Kd.R_alloc | apply Kd.R_drewN | apply Kd.R_drew)); exact Kd.R_mono HO_8.out (fun _ hk => hk.2))); (case aS => exact (keep_size (w := w) (g := g) (row := none) (zz11_0_ HK.out))); (case aL => have := LMc87.out; omega); intro v312 w89 ho hb hg hat; rw [← Ny311.out] at ho; have n0_ := Aside0.mk (IsS47.grown (zz11_1_ HI0.out) hg (IsS47.own_ne HI0.out HO_8.out (by decide))); have n1_ := Aside0.mk (Kd.R_after (ok := (fun _ => True)) (zz11_4_ HO309.out) hg hat); have n2_ := Aside0.mk (below_weaken (zz11_2_ HB.out HI0.out) HL.out hb); have n3_ := Aside0.mk (KeepBut.trans (zz11_0_ HK.out) (KeepBut.of_grown hg g) (Kd.R_base2 HO_8.out)); have n4_ := Aside0.mk (ho); clear HI0; clear HO309; clear HB; clear HK; clear HO_8; have HI0 := n0_; have HO309 := n1_; have HB := n2_; have HK := n3_; have HO313 := n4_; clear n0_ n1_ n2_ n3_ n4_; clear ho hb hg hat))
                 go_roundg k3
                 case measure => have := HJ5.out; have := HJ52.out; have := HK3.out; omega
                 case rel => exact ⟨(y311), (wrap64 (x9_3 + 1)), (t310), (by first | rfl | (simp; done) | (simp [*]; done)), H', ⟨by have := HJ5.out; have := HJ52.out; have := HK3.out; omega⟩, ⟨by (with_reducible repeat (first | apply Kd.R_alloc | apply Kd.R_drewN | apply Kd.R_drew)); exact Kd.R_mono HO313.out (fun _ hk => trivial)⟩, ⟨zz11_1_ HI0.out⟩, ⟨zz11_0_ HK.out⟩, ⟨zz11_2_ HB.out HI0.out⟩⟩
                ·rw [if_neg c87] at H
                 exact absurd H (by simp)
               ·rw [if_neg c85] at H
                have c85b0 : decide (x9_3 < (rd y282 x5_5)) = false := decide_eq_false c85
                clear c85
                simp only [Option.some.injEq, Prod.mk.injEq] at H
                obtain ⟨rfl, rfl⟩ := H
                go_wp2
                go_ret
                exact ⟨_, by first | rfl | (simp [errW_none, errW_some] <;> rfl) | (simp [*, errW_none, errW_some] <;> rfl), zz11_4_ HO_8.out, zz11_1_ HI0.out, zz11_2_ HB.out HI0.out, zz11_0_ HK.out⟩
          ·rw [if_neg c52] at H
           exact absurd H (by simp)
         ·rw [if_neg c51] at H
          exact absurd H (by simp)
  ·rw [if_neg c5] at H
   exact absurd H (by simp)
 ·rw [if_neg c4] at H
  exact absurd H (by simp)

end Go.Proofs.YtifeiepociopoaaGreatDoor.PEv
