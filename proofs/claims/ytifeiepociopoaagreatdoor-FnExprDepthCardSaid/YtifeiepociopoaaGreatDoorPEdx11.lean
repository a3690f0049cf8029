-- Written for this session by its program hprint.py over the kit's print: functions, and contracts that the walk of the Go code proves.
import Derived.Test.YtifeiepociopoaaGreatDoorPEdx0
import Derived.Test.YtifeiepociopoaaGreatDoorPEdx9
import Derived.Test.YtifeiepociopoaaGreatDoorPEdx10
namespace Go.Proofs.YtifeiepociopoaaGreatDoor.PEd
open Go.RowKit Go.Proofs.YtifeiepociopoaaGreatDoor.Hand Go.Proofs.YtifeiepociopoaaGreatDoorW.PrintWords Go.Proofs.YtifeiepociopoaaGreatDoorW.PrintLast Go.Proofs.YtifeiepociopoaaGreatDoorW.PrintMore
attribute [local go_sem] max2_int min2_int max_two min_two max_three min_three max_four min_four   -- for this text's walks alone
set_option linter.unusedVariables false
set_option linter.unusedSimpArgs false

/-! ### spec_l20Cells: function 35 -/
theorem zz11_0_ {P1 Q : Prop} (h1 : P1) (f : P1 → Q := by intro zq1_; repeat (first | (with_reducible first | exact zq1_ | apply KeepBut.set_ | apply keep_drewN | apply keep_drew | apply keep_alloc) | exact zq1_)) : Q := f h1
theorem zz11_1_ {P1 Q : Prop} (h1 : P1) (f : P1 → Q := by intro zq1_; repeat (first | (with_reducible first | exact zq1_ | apply IsS47.alloc | apply IsS47.drewN | apply IsS47.drew | apply IsS47.set_1) | exact zq1_)) : Q := f h1
theorem zz11_2_ {P1 P2 Q : Prop} (h1 : P1) (h2 : P2) (f : P1 → P2 → Q := by intro zq1_ zq2_; repeat (first | (with_reducible first | exact zq1_ | apply below_alloc | apply pw_below_drewN | apply below_drew1 | refine below_set ?_ (IsS47.ge zq2_)) | exact zq1_)) : Q := f h1 h2
theorem zz11_3_ {Q : Prop} (f : Q := by (try simp only [List.map_toArray, List.map_cons, List.map_nil]); first | done | rfl | (simp only [List.length_drop, List.length_take]; rfl)) : Q := f
theorem zz11_4_ {P1 Q : Prop} (h1 : P1) (f : P1 → Q := by intro zq1_; (with_reducible repeat (first | apply Kd.R_alloc | apply Kd.R_drewN | apply Kd.R_drew)); exact zq1_) : Q := f h1
theorem zz11_5_ {Q : Prop} (f : Q := by first | (with_reducible assumption) | assumption) : Q := f
mutual
def spec_l20Cells.j0 : Nat → Int → Int → List Int → Int → Option ((List (S35)) × Int)
 | 0, _, _, _, _ => none
 | k + 1, x1, x5, x1000, x1001 => if x5 = 1 then ((some (([(⟨#[48]⟩ : ByteArray), (⟨#[49]⟩ : ByteArray), (⟨#[50]⟩ : ByteArray), (⟨#[49, 50]⟩ : ByteArray), (⟨#[48, 46, 53]⟩ : ByteArray), (⟨#[51, 46, 50, 53]⟩ : ByteArray)] : List ByteArray) : List ByteArray)).bind fun y247 => ((spec_l20Rd_pick.f k x1000 x1001 6).bind fun bt250 => (if 0 ≤ bt250.1 then (if bt250.1 < (y247.length : Int) then (some ((([(⟨1, rdOf ByteArray.empty y247 bt250.1, 0⟩ : S35)] : List (S35))), bt250.2)) else (none)) else (none)))) else (if x5 = 2 then ((some (([(⟨#[]⟩ : ByteArray), (⟨#[97]⟩ : ByteArray), (⟨#[65, 98]⟩ : ByteArray), (⟨#[120, 10, 121]⟩ : ByteArray), (⟨#[34]⟩ : ByteArray), (⟨#[35]⟩ : ByteArray)] : List ByteArray) : List ByteArray)).bind fun y256 => ((spec_l20Rd_pick.f k x1000 x1001 6).bind fun bt259 => (if 0 ≤ bt259.1 then (if bt259.1 < (y256.length : Int) then (some ((([(⟨2, rdOf ByteArray.empty y256 bt259.1, 0⟩ : S35)] : List (S35))), bt259.2)) else (none)) else (none)))) else (if x5 = 3 then ((some (([(⟨#[116, 114, 117, 101]⟩ : ByteArray), (⟨#[102, 97, 108, 115, 101]⟩ : ByteArray)] : List ByteArray) : List ByteArray)).bind fun y265 => ((spec_l20Rd_pick.f k x1000 x1001 2).bind fun bt268 => (if 0 ≤ bt268.1 then (if bt268.1 < (y265.length : Int) then (some ((([(⟨3, rdOf ByteArray.empty y265 bt268.1, 0⟩ : S35)] : List (S35))), bt268.2)) else (none)) else (none)))) else (if x5 = 4 then ((spec_l20Name.f k x1000 x1001 0).bind fun bt274 => (some ((([(⟨4, bt274.1, 0⟩ : S35)] : List (S35))), bt274.2))) else ((spec_l20Rd_pick.f k x1000 x1001 3).bind fun bt279 => ((spec_l20Rd_pick.f k x1000 bt279.2 2).bind fun bt281 => ((some (([0, 0, 0, 0, 0, bt279.1, wrap64 (1 + bt281.1), 1, 2, 3] : List Int) : List Int)).bind fun y283 => (if 0 ≤ x5 then (if x5 < (y283.length : Int) then (if x5 = 6 then ((some (([(⟨#[108, 101, 110, 103, 116, 104]⟩ : ByteArray), (⟨#[117, 112, 112, 101, 114]⟩ : ByteArray), (⟨#[109, 105, 110]⟩ : ByteArray), (⟨#[109, 97, 120]⟩ : ByteArray), (⟨#[102, 105, 114, 115, 116]⟩ : ByteArray), (⟨#[114, 101, 118, 101, 114, 115, 101]⟩ : ByteArray), (⟨#[99, 111, 110, 116, 97, 105, 110, 115]⟩ : ByteArray), (⟨#[106, 111, 105, 110]⟩ : ByteArray), (⟨#[102]⟩ : ByteArray)] : List ByteArray) : List ByteArray)).bind fun y287 => ((spec_l20Rd_pick.f k x1000 bt281.2 9).bind fun bt290 => (if 0 ≤ bt290.1 then (if bt290.1 < (y287.length : Int) then (spec_l20Cells.j1 k x1 x5 (rd y283 x5) (rdOf ByteArray.empty y287 bt290.1) x1000 bt290.2) else (none)) else (none)))) else (if x5 = 7 then ((some (([(⟨#[33]⟩ : ByteArray), (⟨#[45]⟩ : ByteArray)] : List ByteArray) : List ByteArray)).bind fun y293 => ((spec_l20Rd_pick.f k x1000 bt281.2 2).bind fun bt296 => (if 0 ≤ bt296.1 then (if bt296.1 < (y293.length : Int) then (spec_l20Cells.j1 k x1 x5 (rd y283 x5) (rdOf ByteArray.empty y293 bt296.1) x1000 bt296.2) else (none)) else (none)))) else (if x5 = 8 then ((some (([(⟨#[124, 124]⟩ : ByteArray), (⟨#[38, 38]⟩ : ByteArray), (⟨#[61, 61]⟩ : ByteArray), (⟨#[33, 61]⟩ : ByteArray), (⟨#[60]⟩ : ByteArray), (⟨#[60, 61]⟩ : ByteArray), (⟨#[62]⟩ : ByteArray), (⟨#[62, 61]⟩ : ByteArray), (⟨#[43]⟩ : ByteArray), (⟨#[45]⟩ : ByteArray), (⟨#[42]⟩ : ByteArray), (⟨#[47]⟩ : ByteArray), (⟨#[37]⟩ : ByteArray), (⟨#[38, 38]⟩ : ByteArray), (⟨#[43]⟩ : ByteArray)] : List ByteArray) : List ByteArray)).bind fun y299 => ((spec_l20Rd_pick.f k x1000 bt281.2 15).bind fun bt302 => (if 0 ≤ bt302.1 then (if bt302.1 < (y299.length : Int) then (spec_l20Cells.j1 k x1 x5 (rd y283 x5) (rdOf ByteArray.empty y299 bt302.1) x1000 bt302.2) else (none)) else (none)))) else (spec_l20Cells.j1 k x1 x5 (rd y283 x5) (⟨#[]⟩ : ByteArray) x1000 bt281.2)))) else (none)) else (none))))))))
def spec_l20Cells.j1 : Nat → Int → Int → Int → ByteArray → List Int → Int → Option ((List (S35)) × Int)
 | 0, _, _, _, _, _, _ => none
 | k + 1, x1, x5, x6, x7, x1000, x1001 => spec_l20Cells.l0 k x1 x6 (([(⟨x5, x7, x6⟩ : S35)] : List (S35))) 0 x1000 x1001
def spec_l20Cells.l0 : Nat → Int → Int → List (S35) → Int → List Int → Int → Option ((List (S35)) × Int)
 | 0, _, _, _, _, _, _ => none
 | k + 1, x1, x6, x8, x9, x1000, x1001 => if x9 < x6 then ((spec_l20Cells.f k x1000 x1001 (wrap64 (x1 - 1))).bind fun bt308 => (if x8.length + bt308.1.length < 4398046511104 then (spec_l20Cells.l0 k x1 x6 (x8 ++ bt308.1) (wrap64 (x9 + 1)) x1000 bt308.2) else (none))) else (some (x8, x1001))
def spec_l20Cells.f : Nat → List Int → Int → Int → Option ((List (S35)) × Int)
 | 0, _, _, _ => none
 | k + 1, s0_0, s0_1, a1 => (some (([1, 2, 3, 4, 4, 5, 6, 7, 7, 8, 8, 8, 9] : List Int) : List Int)).bind fun y239 => ((spec_l20Rd_pick.f k s0_0 s0_1 13).bind fun bt242 => (if 0 ≤ bt242.1 then (if bt242.1 < (y239.length : Int) then (if a1 ≤ 1 then ((spec_l20Rd_pick.f k s0_0 bt242.2 4).bind fun bt245 => (spec_l20Cells.j0 k a1 (wrap64 (1 + bt245.1)) s0_0 bt245.2)) else (spec_l20Cells.j0 k a1 (rd y239 bt242.1) s0_0 bt242.2)) else (none)) else (none)))
end
theorem spec_l20Cells.mono_l : ∀ k, (∀ y0 y1 y2, LeO (spec_l20Cells.f k y0 y1 y2) (spec_l20Cells.f (k + 1) y0 y1 y2)) ∧ (∀ y0 y1 y2 y3, LeO (spec_l20Cells.j0 k y0 y1 y2 y3) (spec_l20Cells.j0 (k + 1) y0 y1 y2 y3)) ∧ (∀ y0 y1 y2 y3 y4 y5, LeO (spec_l20Cells.j1 k y0 y1 y2 y3 y4 y5) (spec_l20Cells.j1 (k + 1) y0 y1 y2 y3 y4 y5)) ∧ (∀ y0 y1 y2 y3 y4 y5, LeO (spec_l20Cells.l0 k y0 y1 y2 y3 y4 y5) (spec_l20Cells.l0 (k + 1) y0 y1 y2 y3 y4 y5))
 | 0 => ⟨fun _ _ _ r h => by simp [spec_l20Cells.f] at h, fun _ _ _ _ r h => by simp [spec_l20Cells.j0] at h, fun _ _ _ _ _ _ r h => by simp [spec_l20Cells.j1] at h, fun _ _ _ _ _ _ r h => by simp [spec_l20Cells.l0] at h⟩
 | k + 1 => by
  obtain ⟨ih0, ih1, ih2, ih3⟩ := spec_l20Cells.mono_l k
  refine ⟨?_, ?_, ?_, ?_⟩
  ·intro y0 y1 y2
   unfold spec_l20Cells.f
   repeat' first
   | (with_reducible exact ih0 _ _ _)
   | (with_reducible exact ih1 _ _ _ _)
   | (with_reducible exact ih2 _ _ _ _ _ _)
   | (with_reducible exact ih3 _ _ _ _ _ _)
   | (with_reducible exact spec_l20Name.mono _ _ _ _)
   | (with_reducible exact spec_l20Rd_pick.mono _ _ _ _)
   | (with_reducible exact LeO.refl _)
   | (with_reducible exact LeO.none _)
   | (with_reducible refine LeO.ite ?_ ?_)
   | (with_reducible refine LeO.bind ?_ (fun _ => ?_))
   | exact ih0 _ _ _
   | exact ih1 _ _ _ _
   | exact ih2 _ _ _ _ _ _
   | exact ih3 _ _ _ _ _ _
   | exact spec_l20Name.mono _ _ _ _
   | exact spec_l20Rd_pick.mono _ _ _ _
   | exact LeO.none _
   | refine LeO.ite ?_ ?_
   | refine LeO.bind ?_ (fun _ => ?_)
  ·intro y0 y1 y2 y3
   unfold spec_l20Cells.j0
   repeat' first
   | (with_reducible exact ih0 _ _ _)
   | (with_reducible exact ih1 _ _ _ _)
   | (with_reducible exact ih2 _ _ _ _ _ _)
   | (with_reducible exact ih3 _ _ _ _ _ _)
   | (with_reducible exact spec_l20Name.mono _ _ _ _)
   | (with_reducible exact spec_l20Rd_pick.mono _ _ _ _)
   | (with_reducible exact LeO.refl _)
   | (with_reducible exact LeO.none _)
   | (with_reducible refine LeO.ite ?_ ?_)
   | (with_reducible refine LeO.bind ?_ (fun _ => ?_))
   | exact ih0 _ _ _
   | exact ih1 _ _ _ _
   | exact ih2 _ _ _ _ _ _
   | exact ih3 _ _ _ _ _ _
   | exact spec_l20Name.mono _ _ _ _
   | exact spec_l20Rd_pick.mono _ _ _ _
   | exact LeO.none _
   | refine LeO.ite ?_ ?_
   | refine LeO.bind ?_ (fun _ => ?_)
  ·intro y0 y1 y2 y3 y4 y5
   unfold spec_l20Cells.j1
   repeat' first
   | (with_reducible exact ih0 _ _ _)
   | (with_reducible exact ih1 _ _ _ _)
   | (with_reducible exact ih2 _ _ _ _ _ _)
   | (with_reducible exact ih3 _ _ _ _ _ _)
   | (with_reducible exact spec_l20Name.mono _ _ _ _)
   | (with_reducible exact spec_l20Rd_pick.mono _ _ _ _)
   | (with_reducible exact LeO.refl _)
   | (with_reducible exact LeO.none _)
   | (with_reducible refine LeO.ite ?_ ?_)
   | (with_reducible refine LeO.bind ?_ (fun _ => ?_))
   | exact ih0 _ _ _
   | exact ih1 _ _ _ _
   | exact ih2 _ _ _ _ _ _
   | exact ih3 _ _ _ _ _ _
   | exact spec_l20Name.mono _ _ _ _
   | exact spec_l20Rd_pick.mono _ _ _ _
   | exact LeO.none _
   | refine LeO.ite ?_ ?_
   | refine LeO.bind ?_ (fun _ => ?_)
  ·intro y0 y1 y2 y3 y4 y5
   unfold spec_l20Cells.l0
   repeat' first
   | (with_reducible exact ih0 _ _ _)
   | (with_reducible exact ih1 _ _ _ _)
   | (with_reducible exact ih2 _ _ _ _ _ _)
   | (with_reducible exact ih3 _ _ _ _ _ _)
   | (with_reducible exact spec_l20Name.mono _ _ _ _)
   | (with_reducible exact spec_l20Rd_pick.mono _ _ _ _)
   | (with_reducible exact LeO.refl _)
   | (with_reducible exact LeO.none _)
   | (with_reducible refine LeO.ite ?_ ?_)
   | (with_reducible refine LeO.bind ?_ (fun _ => ?_))
   | exact ih0 _ _ _
   | exact ih1 _ _ _ _
   | exact ih2 _ _ _ _ _ _
   | exact ih3 _ _ _ _ _ _
   | exact spec_l20Name.mono _ _ _ _
   | exact spec_l20Rd_pick.mono _ _ _ _
   | exact LeO.none _
   | refine LeO.ite ?_ ?_
   | refine LeO.bind ?_ (fun _ => ?_)
theorem spec_l20Cells.mono : ∀ a0 a1 a2 k, LeO (spec_l20Cells.f k a0 a1 a2) (spec_l20Cells.f (k + 1) a0 a1 a2) := by
 intro a0 a1 a2 k
 obtain ⟨ih0, ih1, ih2, ih3⟩ := spec_l20Cells.mono_l k
 exact ih0 a0 a1 a2
set_option maxHeartbeats 8000000 in
set_option maxRecDepth 100000 in
theorem spec_l20Cells.calls (k : Nat) : ∀ (g : Nat) (s0_0 : List Int) (s0_1 : Int) (a1 : Int) (r1 : List (S35)) (r2 : Int) (w0 w : World) (hI : IsS47 w0 w g s0_0 s0_1) (hB : Below w0.heap.size w0 w) (h : spec_l20Cells.f k s0_0 s0_1 a1 = some (r1, r2)),
  Calls Tryz.prog 35 #[.pointer (some ⟨g, 0, none⟩), .int .i64 a1] w fun e w' => ∃ v0_ : Value, e = .returned (v0_) ∧ Kd.R k35 35 w' w.heap.size (fun _ => True) v0_ r1 ∧ IsS47 w0 w' g s0_0 r2 ∧ Below w0.heap.size w0 w' ∧ KeepBut w w' g none := by
 induction k using Nat.strongRecOn with
 | _ k ih =>
 intro g s0_0 s0_1 a1 r1 r2 w0 w hI hB h
 cases k with
 | zero => exact absurd h (by simp [spec_l20Cells.f])
 | succ k =>
 simp only [spec_l20Cells.f] at h
 have hu35 := Tryz.underlying35
 have HI0 := Aside0.mk hI
 have HK := Aside0.mk (KeepBut.refl w g none)
 have HL := Aside0.mk hB.size
 clear hI
 have HW0 := Aside0.mk hB.size
 have HB := Aside0.mk hB
 clear hB
 have H : ((some (([1, 2, 3, 4, 4, 5, 6, 7, 7, 8, 8, 8, 9] : List Int) : List Int)).bind fun y239 => ((spec_l20Rd_pick.f k s0_0 s0_1 13).bind fun bt242 => (if 0 ≤ bt242.1 then (if bt242.1 < (y239.length : Int) then (if a1 ≤ 1 then ((spec_l20Rd_pick.f k s0_0 bt242.2 4).bind fun bt245 => (spec_l20Cells.j0 k a1 (wrap64 (1 + bt245.1)) s0_0 bt245.2)) else (spec_l20Cells.j0 k a1 (rd y239 bt242.1) s0_0 bt242.2)) else (none)) else (none)))) = some (r1, r2) := h
 clear h
 obtain ⟨y239, hy239⟩ : ∃ y_ : List Int, y_ = (([1, 2, 3, 4, 4, 5, 6, 7, 7, 8, 8, 8, 9] : List Int)) := ⟨_, rfl⟩
 replace H : ((spec_l20Rd_pick.f k s0_0 s0_1 13).bind fun bt242 => (if 0 ≤ bt242.1 then (if bt242.1 < (y239.length : Int) then (if a1 ≤ 1 then ((spec_l20Rd_pick.f k s0_0 bt242.2 4).bind fun bt245 => (spec_l20Cells.j0 k a1 (wrap64 (1 + bt245.1)) s0_0 bt245.2)) else (spec_l20Cells.j0 k a1 (rd y239 bt242.1) s0_0 bt242.2)) else (none)) else (none))) = some (r1, r2) := by first | (rw [hy239]; with_reducible exact H) | (have H2_ := (Option.bind_some _ _).symm.trans H; rw [hy239]; with_reducible exact H2_) | (have H2_ := (Option.bind_some _ _).symm.trans H; with_reducible exact H2_) | with_reducible exact H | (rw [hy239]; exact H) | exact H
 have Ny239 := Aside0.mk hy239
 clear hy239
 replace H := Option.bind_eq_some_iff.mp H
 obtain ⟨⟨t242, t243⟩, A30, H⟩ := H
 try dsimp only at H
 have A3 := Aside0.mk A30
 clear A30
 by_cases c4 : 0 ≤ t242
 ·rw [if_pos c4] at H
  have c4b0 : decide (0 ≤ t242) = true := decide_eq_true c4
  clear c4
  by_cases c5 : t242 < (y239.length : Int)
  ·rw [if_pos c5] at H
   have c5b0 : decide (t242 < (y239.length : Int)) = true := decide_eq_true c5
   clear c5
   have HC6 := Aside0.mk H
   clear H
   go_enter Tryz.func35, Tryz.ntmps35
   go_upto_if 16 with (first | ((with_reducible refine gate_dst (N := 10) rfl ?_); refine Kd.R_lit (Kd.int .i64) _ 3 ?hg (N := 10) ?hd (xs := ([1, 2, 3, 4, 4, 5, 6, 7, 7, 8, 8, 8, 9] : List Int)) (inner := [.int .i64 1, .int .i64 2, .int .i64 3, .int .i64 4, .int .i64 4, .int .i64 5, .int .i64 6, .int .i64 7, .int .i64 7, .int .i64 8, .int .i64 8, .int .i64 8, .int .i64 9]) (ok := fun _ => True) (okp := fun _ => True) ?hr ?hp (fun _ hk => hk) trivial (Below.refl _ _) (Nat.le_refl _) (by simp) ?_; (case hd => rfl); (case hg => rfl); (case hr => first | (go_simp; done) | (go_simp; rfl)); (case hp => exact (Reps.one (show Kd.M (Kd.int .i64) _ _ _ 1 [.int .i64 1] from rfl) (Reps.one (show Kd.M (Kd.int .i64) _ _ _ 2 [.int .i64 2] from rfl) (Reps.one (show Kd.M (Kd.int .i64) _ _ _ 3 [.int .i64 3] from rfl) (Reps.one (show Kd.M (Kd.int .i64) _ _ _ 4 [.int .i64 4] from rfl) (Reps.one (show Kd.M (Kd.int .i64) _ _ _ 4 [.int .i64 4] from rfl) (Reps.one (show Kd.M (Kd.int .i64) _ _ _ 5 [.int .i64 5] from rfl) (Reps.one (show Kd.M (Kd.int .i64) _ _ _ 6 [.int .i64 6] from rfl) (Reps.one (show Kd.M (Kd.int .i64) _ _ _ 7 [.int .i64 7] from rfl) (Reps.one (show Kd.M (Kd.int .i64) _ _ _ 7 [.int .i64 7] from rfl) (Reps.one (show Kd.M (Kd.int .i64) _ _ _ 8 [.int .i64 8] from rfl) (Reps.one (show Kd.M (Kd.int .i64) _ _ _ 8 [.int .i64 8] from rfl) (Reps.one (show Kd.M (Kd.int .i64) _ _ _ 8 [.int .i64 8] from rfl) (Reps.one (show Kd.M (Kd.int .i64) _ _ _ 9 [.int .i64 9] from rfl) (Reps.none _ _))))))))))))))); intro v240 w7 ho8 hb hg_ hnew_; clear hg_ hnew_; (first | rw [← Ny239.out] at ho8 | (simp only [Int.reduceToNat] at ho8; rw [← Ny239.out] at ho8)); have n0_ := Aside0.mk (Kd.R_lower ho8 (keep_size (w := w) (g := g) (row := none) (zz11_0_ HK.out))); have n1_ := Aside0.mk (IsS47.below (zz11_1_ HI0.out) hb); have n2_ := Aside0.mk (KeepBut.trans (zz11_0_ HK.out) (KeepBut.of_below hb g none) (.inl rfl)); have n3_ := Aside0.mk (below_step (zz11_2_ HB.out HI0.out) hb); clear HI0; clear HK; clear HB; have HO241 := n0_; have HI0 := n1_; have HK := n2_; have HB := n3_; clear n0_ n1_ n2_ n3_; clear hb ho8) | ((with_reducible refine gate_callee (f := 30) rfl ?_); refine goesL_ (some 12) rfl rfl Tryz.func30 (by kernel_rfl) rfl #[.pointer (some ⟨g, 0, none⟩), .int .i64 13] rfl (zz11_3_) ?_; (with_reducible refine (spec_l20Rd_pick.calls k g s0_0 s0_1 13 t242 t243 w0 _ ?side1 ?side2 A3.out).mono ?_); (case side1 => exact zz11_1_ HI0.out); (case side2 => exact zz11_2_ HB.out HI0.out); rintro e w9 ⟨rfl, hi, hb, hk⟩; refine ⟨_, rfl, ?_⟩; have n0_ := Aside0.mk (Kd.R_mono (Kd.R_keep (IsS47.apart (show IsS47 w0 _ g s0_0 s0_1 from by repeat (first | (with_reducible first | exact HI0.out | apply IsS47.alloc | apply IsS47.drewN | apply IsS47.drew | apply IsS47.set_1) | exact HI0.out)) (zz11_4_ HO241.out) (by decide)) hk (fun _ h => h.2)) (fun _ h => h.1)); have n1_ := Aside0.mk (KeepBut.trans (zz11_0_ HK.out) hk (.inl rfl)); have n2_ := Aside0.mk (hb); have n3_ := Aside0.mk (hi); clear HO241; clear HK; clear HB; clear HI0; have HO241 := n0_; have HK := n1_; have HB := n2_; have HI0 := n3_; clear n0_ n1_ n2_ n3_; (try clear hb); (try clear hb2); (try clear hk); (try clear hi); obtain ⟨Ao10, co10, eo10⟩ := Kd.R_slice HO241.out; subst eo10; have p244 : 0 ≤ (t242 : Int) := of_decide_eq_true (zz11_5_); have q244 : t242 < (y239.length : Int) := of_decide_eq_true (zz11_5_); obtain ⟨ad244, e244, hx244_0⟩ := Kd.at_int (Kd.R_reads' HO241.out).2.2 t242 p244 q244; cases e244; replace p244 := eq_true p244; replace q244 := eq_true q244))
   (try simp only [Act.put, List.setIfInBounds_toArray, List.set_cons_zero, List.set_cons_succ])
   go_cut [5] (fun v5 wc => ∃ (kq : Nat) (x5_5 : Int) (x1001_5 : Int), v5 = .int .i64 x5_5 ∧ Aside0 (spec_l20Cells.j0 kq a1 x5_5 s0_0 x1001_5 = some (r1, r2)) ∧ Aside0 (kq ≤ k) ∧ Aside0 (IsS47 w0 wc g s0_0 x1001_5) ∧ Aside0 (KeepBut w wc g none) ∧ Aside0 (Below w0.heap.size w0 wc))
   case first =>
    have H := HC6.out
    clear HC6
    by_cases c11 : a1 ≤ 1
    ·rw [if_pos c11] at H
     have c11b0 : decide (a1 ≤ 1) = true := decide_eq_true c11
     clear c11
     (first | rw [c11b0] | (simp only [i64_w, i32_w]; rw [c11b0]) | skip)
     replace H := Option.bind_eq_some_iff.mp H
     obtain ⟨⟨t245, t246⟩, A120, H⟩ := H
     try dsimp only at H
     have A12 := Aside0.mk A120
     clear A120
     have H' := Aside0.mk H
     clear H
     go_wp2_with (first | ((with_reducible refine gate_callee (f := 30) rfl ?_); refine goesL_ (some 18) rfl rfl Tryz.func30 (by kernel_rfl) rfl #[.pointer (some ⟨g, 0, none⟩), .int .i64 4] rfl (zz11_3_) ?_; (with_reducible refine (spec_l20Rd_pick.calls k g s0_0 t243 4 t245 t246 w0 _ ?side1 ?side2 A12.out).mono ?_); (case side1 => exact zz11_1_ HI0.out); (case side2 => exact zz11_2_ HB.out HI0.out); rintro e w13 ⟨rfl, hi, hb, hk⟩; refine ⟨_, rfl, ?_⟩; have n0_ := Aside0.mk (Kd.R_mono (Kd.R_keep (IsS47.apart (show IsS47 w0 _ g s0_0 t243 from by repeat (first | (with_reducible first | exact HI0.out | apply IsS47.alloc | apply IsS47.drewN | apply IsS47.drew | apply IsS47.set_1) | exact HI0.out)) (zz11_4_ HO241.out) (by decide)) hk (fun _ h => h.2)) (fun _ h => h.1)); have n1_ := Aside0.mk (KeepBut.trans (zz11_0_ HK.out) hk (.inl rfl)); have n2_ := Aside0.mk (hb); have n3_ := Aside0.mk (hi); clear HO241; clear HK; clear HB; clear HI0; have HO241 := n0_; have HK := n1_; have HB := n2_; have HI0 := n3_; clear n0_ n1_ n2_ n3_; (try clear hb); (try clear hb2); (try clear hk); (try clear hi)))
     go_meet
     case rel => exact ⟨_, (wrap64 (1 + t245)), (t246), (by first | rfl | (simp; done) | (simp [*]; done)), H', ⟨by first | omega | exact Nat.le_refl _⟩, ⟨zz11_1_ HI0.out⟩, ⟨zz11_0_ HK.out⟩, ⟨zz11_2_ HB.out HI0.out⟩⟩
    ·rw [if_neg c11] at H
     have c11b0 : decide (a1 ≤ 1) = false := decide_eq_false c11
     clear c11
     (first | rw [c11b0] | (simp only [i64_w, i32_w]; rw [c11b0]) | skip)
     have H' := Aside0.mk H
     clear H
     go_wp2
     go_meet
     case rel => exact ⟨_, (rd y239 t242), (t243), (by first | rfl | (simp; done) | (simp [*]; done)), H', ⟨by first | omega | exact Nat.le_refl _⟩, ⟨zz11_1_ HI0.out⟩, ⟨zz11_0_ HK.out⟩, ⟨zz11_2_ HB.out HI0.out⟩⟩
   case rest =>
    clear HC6
    try clear c1
    try clear p2
    try clear q2
    try clear hx2
    try clear c3
    try clear c4
    try clear c4b0
    try clear c5
    try clear c5b0
    try clear p6
    try clear c11
    try clear c11b0
    try clear hx244_0
    try clear p244
    try clear q244
    obtain ⟨kq, x5_5, x1001_5, rfl, HA, HJ5, HI0, HK, HB⟩ := hcut
    cases kq with
    | zero => exact absurd HA.out (by simp [spec_l20Cells.j0])
    | succ kj5 =>
     have H := HA.out
     clear HA
     simp only [spec_l20Cells.j0] at H
     by_cases c14 : x5_5 = 1
     ·rw [if_pos c14] at H
      have c14b0 : (x5_5 == 1) = true := beq_iff_eq.mpr c14
      have c14b1 : (x5_5 != 1) = false := bne_eq_false_iff_eq.mpr c14
      clear c14
      obtain ⟨y247, hy247⟩ : ∃ y_ : List ByteArray, y_ = (([(⟨#[48]⟩ : ByteArray), (⟨#[49]⟩ : ByteArray), (⟨#[50]⟩ : ByteArray), (⟨#[49, 50]⟩ : ByteArray), (⟨#[48, 46, 53]⟩ : ByteArray), (⟨#[51, 46, 50, 53]⟩ : ByteArray)] : List ByteArray)) := ⟨_, rfl⟩
      replace H : ((spec_l20Rd_pick.f kj5 s0_0 x1001_5 6).bind fun bt250 => (if 0 ≤ bt250.1 then (if bt250.1 < (y247.length : Int) then (some ((([(⟨1, rdOf ByteArray.empty y247 bt250.1, 0⟩ : S35)] : List (S35))), bt250.2)) else (none)) else (none))) = some (r1, r2) := by first | (rw [hy247]; with_reducible exact H) | (have H2_ := (Option.bind_some _ _).symm.trans H; rw [hy247]; with_reducible exact H2_) | (have H2_ := (Option.bind_some _ _).symm.trans H; with_reducible exact H2_) | with_reducible exact H | (rw [hy247]; exact H) | exact H
      have Ny247 := Aside0.mk hy247
      clear hy247
      replace H := Option.bind_eq_some_iff.mp H
      obtain ⟨⟨t250, t251⟩, A150, H⟩ := H
      try dsimp only at H
      have A15 := Aside0.mk A150
      clear A150
      by_cases c16 : 0 ≤ t250
      ·rw [if_pos c16] at H
       have c16b0 : decide (0 ≤ t250) = true := decide_eq_true c16
       clear c16
       by_cases c17 : t250 < (y247.length : Int)
       ·rw [if_pos c17] at H
        have c17b0 : decide (t250 < (y247.length : Int)) = true := decide_eq_true c17
        clear c17
        obtain ⟨y253, hy253⟩ : ∃ y_ : List (S35), y_ = (([(⟨1, rdOf ByteArray.empty y247 t250, 0⟩ : S35)] : List (S35))) := ⟨_, rfl⟩
        replace H : (some (y253, t251)) = some (r1, r2) := by first | (rw [hy253]; with_reducible exact H) | (have H2_ := (Option.bind_some _ _).symm.trans H; rw [hy253]; with_reducible exact H2_) | (have H2_ := (Option.bind_some _ _).symm.trans H; with_reducible exact H2_) | with_reducible exact H | (rw [hy253]; exact H) | exact H
        have Ny253 := Aside0.mk hy253
        clear hy253
        simp only [Option.some.injEq, Prod.mk.injEq] at H
        obtain ⟨rfl, rfl⟩ := H
        go_wp2_with (first | ((with_reducible refine gate_dst (N := 23) rfl ?_); refine Kd.R_lit Kd.string _ 9 ?hg (N := 23) ?hd (xs := ([(⟨#[48]⟩ : ByteArray), (⟨#[49]⟩ : ByteArray), (⟨#[50]⟩ : ByteArray), (⟨#[49, 50]⟩ : ByteArray), (⟨#[48, 46, 53]⟩ : ByteArray), (⟨#[51, 46, 50, 53]⟩ : ByteArray)] : List ByteArray)) (inner := [.string (⟨#[48]⟩ : ByteArray), .string (⟨#[49]⟩ : ByteArray), .string (⟨#[50]⟩ : ByteArray), .string (⟨#[49, 50]⟩ : ByteArray), .string (⟨#[48, 46, 53]⟩ : ByteArray), .string (⟨#[51, 46, 50, 53]⟩ : ByteArray)]) (ok := fun _ => True) (okp := fun _ => True) ?hr ?hp (fun _ hk => hk) trivial (Below.refl _ _) (Nat.le_refl _) (by simp) ?_; (case hd => rfl); (case hg => rfl); (case hr => first | (go_simp; done) | (go_simp; rfl)); (case hp => exact (Reps.one (show Kd.M Kd.string _ _ _ (⟨#[48]⟩ : ByteArray) [.string (⟨#[48]⟩ : ByteArray)] from rfl) (Reps.one (show Kd.M Kd.string _ _ _ (⟨#[49]⟩ : ByteArray) [.string (⟨#[49]⟩ : ByteArray)] from rfl) (Reps.one (show Kd.M Kd.string _ _ _ (⟨#[50]⟩ : ByteArray) [.string (⟨#[50]⟩ : ByteArray)] from rfl) (Reps.one (show Kd.M Kd.string _ _ _ (⟨#[49, 50]⟩ : ByteArray) [.string (⟨#[49, 50]⟩ : ByteArray)] from rfl) (Reps.one (show Kd.M Kd.string _ _ _ (⟨#[48, 46, 53]⟩ : ByteArray) [.string (⟨#[48, 46, 53]⟩ : ByteArray)] from rfl) (Reps.one (show Kd.M Kd.string _ _ _ (⟨#[51, 46, 50, 53]⟩ : ByteArray) [.string (⟨#[51, 46, 50, 53]⟩ : ByteArray)] from rfl) (Reps.none _ _)))))))); intro v248 w18 ho19 hb hg_ hnew_; clear hg_ hnew_; (first | rw [← Ny247.out] at ho19 | (simp only [Int.reduceToNat] at ho19; rw [← Ny247.out] at ho19)); have n0_ := Aside0.mk (Kd.R_lower ho19 (keep_size (w := w) (g := g) (row := none) (zz11_0_ HK.out))); have n1_ := Aside0.mk (IsS47.below (zz11_1_ HI0.out) hb); have n2_ := Aside0.mk (KeepBut.trans (zz11_0_ HK.out) (KeepBut.of_below hb g none) (.inl rfl)); have n3_ := Aside0.mk (below_step (zz11_2_ HB.out HI0.out) hb); clear HI0; clear HK; clear HB; have HO249 := n0_; have HI0 := n1_; have HK := n2_; have HB := n3_; clear n0_ n1_ n2_ n3_; clear hb ho19) | ((with_reducible refine gate_callee (f := 30) rfl ?_); refine goesL_ (some 25) rfl rfl Tryz.func30 (by kernel_rfl) rfl #[.pointer (some ⟨g, 0, none⟩), .int .i64 6] rfl (zz11_3_) ?_; (with_reducible refine (spec_l20Rd_pick.calls kj5 g s0_0 x1001_5 6 t250 t251 w0 _ ?side1 ?side2 A15.out).mono ?_); (case side1 => exact zz11_1_ HI0.out); (case side2 => exact zz11_2_ HB.out HI0.out); rintro e w20 ⟨rfl, hi, hb, hk⟩; refine ⟨_, rfl, ?_⟩; have n0_ := Aside0.mk (Kd.R_mono (Kd.R_keep (IsS47.apart (show IsS47 w0 _ g s0_0 x1001_5 from by repeat (first | (with_reducible first | exact HI0.out | apply IsS47.alloc | apply IsS47.drewN | apply IsS47.drew | apply IsS47.set_1) | exact HI0.out)) (zz11_4_ HO249.out) (by decide)) hk (fun _ h => h.2)) (fun _ h => h.1)); have n1_ := Aside0.mk (KeepBut.trans (zz11_0_ HK.out) hk (.inl rfl)); have n2_ := Aside0.mk (hb); have n3_ := Aside0.mk (hi); clear HO249; clear HK; clear HB; clear HI0; have HO249 := n0_; have HK := n1_; have HB := n2_; have HI0 := n3_; clear n0_ n1_ n2_ n3_; (try clear hb); (try clear hb2); (try clear hk); (try clear hi); obtain ⟨Ao21, co21, eo21⟩ := Kd.R_slice HO249.out; subst eo21; have p252 : 0 ≤ (t250 : Int) := of_decide_eq_true (zz11_5_); have q252 : t250 < (y247.length : Int) := of_decide_eq_true (zz11_5_); obtain ⟨ad252, e252, hx252_0⟩ := Kd.at_string (Kd.R_reads' HO249.out).2.2 t250 p252 q252; cases e252; replace p252 := eq_true p252; replace q252 := eq_true q252) | ((with_reducible refine gate_dst (N := 29) rfl ?_); refine Kd.R_lit k35 _ 35 ?hg (N := 29) ?hd (xs := ([(⟨1, rdOf ByteArray.empty y247 t250, 0⟩ : S35)] : List (S35))) (inner := [.int .i64 1, .string (rdOf ByteArray.empty y247 t250), .int .i64 0]) (ok := fun _ => True) (okp := fun _ => True) ?hr ?hp (fun _ hk => hk) trivial (Below.refl _ _) (Nat.le_refl _) (by simp) ?_; (case hd => rfl); (case hg => rfl); (case hr => first | (go_simp; done) | (go_simp; rfl)); (case hp => exact (Reps.c3 (show Kd.M k35 _ _ _ (⟨1, rdOf ByteArray.empty y247 t250, 0⟩ : S35) [.int .i64 1, .string (rdOf ByteArray.empty y247 t250), .int .i64 0] from (k35_mkM _ _ _ (⟨1, rdOf ByteArray.empty y247 t250, 0⟩ : S35) )) (Reps.none _ _))); intro v254 w22 ho23 hb hg_ hnew_; clear hg_ hnew_; (first | rw [← Ny253.out] at ho23 | (simp only [Int.reduceToNat] at ho23; rw [← Ny253.out] at ho23)); have n0_ := Aside0.mk (Kd.R_below (zz11_4_ HO249.out) hb); have n1_ := Aside0.mk (Kd.R_lower ho23 (keep_size (w := w) (g := g) (row := none) (zz11_0_ HK.out))); have n2_ := Aside0.mk (IsS47.below (zz11_1_ HI0.out) hb); have n3_ := Aside0.mk (KeepBut.trans (zz11_0_ HK.out) (KeepBut.of_below hb g none) (.inl rfl)); have n4_ := Aside0.mk (below_step (zz11_2_ HB.out HI0.out) hb); clear HO249; clear HI0; clear HK; clear HB; have HO249 := n0_; have HO255 := n1_; have HI0 := n2_; have HK := n3_; have HB := n4_; clear n0_ n1_ n2_ n3_ n4_; clear hb ho23))
        go_ret
        exact ⟨_, by first | rfl | (simp [errW_none, errW_some] <;> rfl) | (simp [*, errW_none, errW_some] <;> rfl), zz11_4_ HO255.out, zz11_1_ HI0.out, zz11_2_ HB.out HI0.out, zz11_0_ HK.out⟩
       ·rw [if_neg c17] at H
        exact absurd H (by simp)
      ·rw [if_neg c16] at H
       exact absurd H (by simp)
     ·rw [if_neg c14] at H
      have c14b0 : (x5_5 == 1) = false := beq_eq_false_iff_ne.mpr c14
      have c14b1 : (x5_5 != 1) = true := bne_iff_ne.mpr c14
      by_cases c24 : x5_5 = 2
      ·rw [if_pos c24] at H
       have c24b0 : (x5_5 == 2) = true := beq_iff_eq.mpr c24
       have c24b1 : (x5_5 != 2) = false := bne_eq_false_iff_eq.mpr c24
       clear c24
       obtain ⟨y256, hy256⟩ : ∃ y_ : List ByteArray, y_ = (([(⟨#[]⟩ : ByteArray), (⟨#[97]⟩ : ByteArray), (⟨#[65, 98]⟩ : ByteArray), (⟨#[120, 10, 121]⟩ : ByteArray), (⟨#[34]⟩ : ByteArray), (⟨#[35]⟩ : ByteArray)] : List ByteArray)) := ⟨_, rfl⟩
       replace H : ((spec_l20Rd_pick.f kj5 s0_0 x1001_5 6).bind fun bt259 => (if 0 ≤ bt259.1 then (if bt259.1 < (y256.length : Int) then (some ((([(⟨2, rdOf ByteArray.empty y256 bt259.1, 0⟩ : S35)] : List (S35))), bt259.2)) else (none)) else (none))) = some (r1, r2) := by first | (rw [hy256]; with_reducible exact H) | (have H2_ := (Option.bind_some _ _).symm.trans H; rw [hy256]; with_reducible exact H2_) | (have H2_ := (Option.bind_some _ _).symm.trans H; with_reducible exact H2_) | with_reducible exact H | (rw [hy256]; exact H) | exact H
       have Ny256 := Aside0.mk hy256
       clear hy256
       replace H := Option.bind_eq_some_iff.mp H
       obtain ⟨⟨t259, t260⟩, A250, H⟩ := H
       try dsimp only at H
       have A25 := Aside0.mk A250
       clear A250
       by_cases c26 : 0 ≤ t259
       ·rw [if_pos c26] at H
        have c26b0 : decide (0 ≤ t259) = true := decide_eq_true c26
        clear c26
        by_cases c27 : t259 < (y256.length : Int)
        ·rw [if_pos c27] at H
         have c27b0 : decide (t259 < (y256.length : Int)) = true := decide_eq_true c27
         clear c27
         obtain ⟨y262, hy262⟩ : ∃ y_ : List (S35), y_ = (([(⟨2, rdOf ByteArray.empty y256 t259, 0⟩ : S35)] : List (S35))) := ⟨_, rfl⟩
         replace H : (some (y262, t260)) = some (r1, r2) := by first | (rw [hy262]; with_reducible exact H) | (have H2_ := (Option.bind_some _ _).symm.trans H; rw [hy262]; with_reducible exact H2_) | (have H2_ := (Option.bind_some _ _).symm.trans H; with_reducible exact H2_) | with_reducible exact H | (rw [hy262]; exact H) | exact H
         have Ny262 := Aside0.mk hy262
         clear hy262
         simp only [Option.some.injEq, Prod.mk.injEq] at H
         obtain ⟨rfl, rfl⟩ := H
         go_wp2_with (first | ((with_reducible refine gate_dst (N := 32) rfl ?_); refine Kd.R_lit Kd.string _ 9 ?hg (N := 32) ?hd (xs := ([(⟨#[]⟩ : ByteArray), (⟨#[97]⟩ : ByteArray), (⟨#[65, 98]⟩ : ByteArray), (⟨#[120, 10, 121]⟩ : ByteArray), (⟨#[34]⟩ : ByteArray), (⟨#[35]⟩ : ByteArray)] : List ByteArray)) (inner := [.string (⟨#[]⟩ : ByteArray), .string (⟨#[97]⟩ : ByteArray), .string (⟨#[65, 98]⟩ : ByteArray), .string (⟨#[120, 10, 121]⟩ : ByteArray), .string (⟨#[34]⟩ : ByteArray), .string (⟨#[35]⟩ : ByteArray)]) (ok := fun _ => True) (okp := fun _ => True) ?hr ?hp (fun _ hk => hk) trivial (Below.refl _ _) (Nat.le_refl _) (by simp) ?_; (case hd => rfl); (case hg => rfl); (case hr => first | (go_simp; done) | (go_simp; rfl)); (case hp => exact (Reps.one (show Kd.M Kd.string _ _ _ (⟨#[]⟩ : ByteArray) [.string (⟨#[]⟩ : ByteArray)] from rfl) (Reps.one (show Kd.M Kd.string _ _ _ (⟨#[97]⟩ : ByteArray) [.string (⟨#[97]⟩ : ByteArray)] from rfl) (Reps.one (show Kd.M Kd.string _ _ _ (⟨#[65, 98]⟩ : ByteArray) [.string (⟨#[65, 98]⟩ : ByteArray)] from rfl) (Reps.one (show Kd.M Kd.string _ _ _ (⟨#[120, 10, 121]⟩ : ByteArray) [.string (⟨#[120, 10, 121]⟩ : ByteArray)] from rfl) (Reps.one (show Kd.M Kd.string _ _ _ (⟨#[34]⟩ : ByteArray) [.string (⟨#[34]⟩ : ByteArray)] from rfl) (Reps.one (show Kd.M Kd.string _ _ _ (⟨#[35]⟩ : ByteArray) [.string (⟨#[35]⟩ : ByteArray)] from rfl) (Reps.none _ _)))))))); intro v257 w28 ho29 hb hg_ hnew_; clear hg_ hnew_; (first | rw [← Ny256.out] at ho29 | (simp only [Int.reduceToNat] at ho29; rw [← Ny256.out] at ho29)); have n0_ := Aside0.mk (Kd.R_lower ho29 (keep_size (w := w) (g := g) (row := none) (zz11_0_ HK.out))); have n1_ := Aside0.mk (IsS47.below (zz11_1_ HI0.out) hb); have n2_ := Aside0.mk (KeepBut.trans (zz11_0_ HK.out) (KeepBut.of_below hb g none) (.inl rfl)); have n3_ := Aside0.mk (below_step (zz11_2_ HB.out HI0.out) hb); clear HI0; clear HK; clear HB; have HO258 := n0_; have HI0 := n1_; have HK := n2_; have HB := n3_; clear n0_ n1_ n2_ n3_; clear hb ho29) | ((with_reducible refine gate_callee (f := 30) rfl ?_); refine goesL_ (some 34) rfl rfl Tryz.func30 (by kernel_rfl) rfl #[.pointer (some ⟨g, 0, none⟩), .int .i64 6] rfl (zz11_3_) ?_; (with_reducible refine (spec_l20Rd_pick.calls kj5 g s0_0 x1001_5 6 t259 t260 w0 _ ?side1 ?side2 A25.out).mono ?_); (case side1 => exact zz11_1_ HI0.out); (case side2 => exact zz11_2_ HB.out HI0.out); rintro e w30 ⟨rfl, hi, hb, hk⟩; refine ⟨_, rfl, ?_⟩; have n0_ := Aside0.mk (Kd.R_mono (Kd.R_keep (IsS47.apart (show IsS47 w0 _ g s0_0 x1001_5 from by repeat (first | (with_reducible first | exact HI0.out | apply IsS47.alloc | apply IsS47.drewN | apply IsS47.drew | apply IsS47.set_1) | exact HI0.out)) (zz11_4_ HO258.out) (by decide)) hk (fun _ h => h.2)) (fun _ h => h.1)); have n1_ := Aside0.mk (KeepBut.trans (zz11_0_ HK.out) hk (.inl rfl)); have n2_ := Aside0.mk (hb); have n3_ := Aside0.mk (hi); clear HO258; clear HK; clear HB; clear HI0; have HO258 := n0_; have HK := n1_; have HB := n2_; have HI0 := n3_; clear n0_ n1_ n2_ n3_; (try clear hb); (try clear hb2); (try clear hk); (try clear hi); obtain ⟨Ao31, co31, eo31⟩ := Kd.R_slice HO258.out; subst eo31; have p261 : 0 ≤ (t259 : Int) := of_decide_eq_true (zz11_5_); have q261 : t259 < (y256.length : Int) := of_decide_eq_true (zz11_5_); obtain ⟨ad261, e261, hx261_0⟩ := Kd.at_string (Kd.R_reads' HO258.out).2.2 t259 p261 q261; cases e261; replace p261 := eq_true p261; replace q261 := eq_true q261) | ((with_reducible refine gate_dst (N := 38) rfl ?_); refine Kd.R_lit k35 _ 35 ?hg (N := 38) ?hd (xs := ([(⟨2, rdOf ByteArray.empty y256 t259, 0⟩ : S35)] : List (S35))) (inner := [.int .i64 2, .string (rdOf ByteArray.empty y256 t259), .int .i64 0]) (ok := fun _ => True) (okp := fun _ => True) ?hr ?hp (fun _ hk => hk) trivial (Below.refl _ _) (Nat.le_refl _) (by simp) ?_; (case hd => rfl); (case hg => rfl); (case hr => first | (go_simp; done) | (go_simp; rfl)); (case hp => exact (Reps.c3 (show Kd.M k35 _ _ _ (⟨2, rdOf ByteArray.empty y256 t259, 0⟩ : S35) [.int .i64 2, .string (rdOf ByteArray.empty y256 t259), .int .i64 0] from (k35_mkM _ _ _ (⟨2, rdOf ByteArray.empty y256 t259, 0⟩ : S35) )) (Reps.none _ _))); intro v263 w32 ho33 hb hg_ hnew_; clear hg_ hnew_; (first | rw [← Ny262.out] at ho33 | (simp only [Int.reduceToNat] at ho33; rw [← Ny262.out] at ho33)); have n0_ := Aside0.mk (Kd.R_below (zz11_4_ HO258.out) hb); have n1_ := Aside0.mk (Kd.R_lower ho33 (keep_size (w := w) (g := g) (row := none) (zz11_0_ HK.out))); have n2_ := Aside0.mk (IsS47.below (zz11_1_ HI0.out) hb); have n3_ := Aside0.mk (KeepBut.trans (zz11_0_ HK.out) (KeepBut.of_below hb g none) (.inl rfl)); have n4_ := Aside0.mk (below_step (zz11_2_ HB.out HI0.out) hb); clear HO258; clear HI0; clear HK; clear HB; have HO258 := n0_; have HO264 := n1_; have HI0 := n2_; have HK := n3_; have HB := n4_; clear n0_ n1_ n2_ n3_ n4_; clear hb ho33))
         go_ret
         exact ⟨_, by first | rfl | (simp [errW_none, errW_some] <;> rfl) | (simp [*, errW_none, errW_some] <;> rfl), zz11_4_ HO264.out, zz11_1_ HI0.out, zz11_2_ HB.out HI0.out, zz11_0_ HK.out⟩
        ·rw [if_neg c27] at H
         exact absurd H (by simp)
       ·rw [if_neg c26] at H
        exact absurd H (by simp)
      ·rw [if_neg c24] at H
       have c24b0 : (x5_5 == 2) = false := beq_eq_false_iff_ne.mpr c24
       have c24b1 : (x5_5 != 2) = true := bne_iff_ne.mpr c24
       by_cases c34 : x5_5 = 3
       ·rw [if_pos c34] at H
        have c34b0 : (x5_5 == 3) = true := beq_iff_eq.mpr c34
        have c34b1 : (x5_5 != 3) = false := bne_eq_false_iff_eq.mpr c34
        clear c34
        obtain ⟨y265, hy265⟩ : ∃ y_ : List ByteArray, y_ = (([(⟨#[116, 114, 117, 101]⟩ : ByteArray), (⟨#[102, 97, 108, 115, 101]⟩ : ByteArray)] : List ByteArray)) := ⟨_, rfl⟩
        replace H : ((spec_l20Rd_pick.f kj5 s0_0 x1001_5 2).bind fun bt268 => (if 0 ≤ bt268.1 then (if bt268.1 < (y265.length : Int) then (some ((([(⟨3, rdOf ByteArray.empty y265 bt268.1, 0⟩ : S35)] : List (S35))), bt268.2)) else (none)) else (none))) = some (r1, r2) := by first | (rw [hy265]; with_reducible exact H) | (have H2_ := (Option.bind_some _ _).symm.trans H; rw [hy265]; with_reducible exact H2_) | (have H2_ := (Option.bind_some _ _).symm.trans H; with_reducible exact H2_) | with_reducible exact H | (rw [hy265]; exact H) | exact H
        have Ny265 := Aside0.mk hy265
        clear hy265
        replace H := Option.bind_eq_some_iff.mp H
        obtain ⟨⟨t268, t269⟩, A350, H⟩ := H
        try dsimp only at H
        have A35 := Aside0.mk A350
        clear A350
        by_cases c36 : 0 ≤ t268
        ·rw [if_pos c36] at H
         have c36b0 : decide (0 ≤ t268) = true := decide_eq_true c36
         clear c36
         by_cases c37 : t268 < (y265.length : Int)
         ·rw [if_pos c37] at H
          have c37b0 : decide (t268 < (y265.length : Int)) = true := decide_eq_true c37
          clear c37
          obtain ⟨y271, hy271⟩ : ∃ y_ : List (S35), y_ = (([(⟨3, rdOf ByteArray.empty y265 t268, 0⟩ : S35)] : List (S35))) := ⟨_, rfl⟩
          replace H : (some (y271, t269)) = some (r1, r2) := by first | (rw [hy271]; with_reducible exact H) | (have H2_ := (Option.bind_some _ _).symm.trans H; rw [hy271]; with_reducible exact H2_) | (have H2_ := (Option.bind_some _ _).symm.trans H; with_reducible exact H2_) | with_reducible exact H | (rw [hy271]; exact H) | exact H
          have Ny271 := Aside0.mk hy271
          clear hy271
          simp only [Option.some.injEq, Prod.mk.injEq] at H
          obtain ⟨rfl, rfl⟩ := H
          go_wp2_with (first | ((with_reducible refine gate_dst (N := 41) rfl ?_); refine Kd.R_lit Kd.string _ 9 ?hg (N := 41) ?hd (xs := ([(⟨#[116, 114, 117, 101]⟩ : ByteArray), (⟨#[102, 97, 108, 115, 101]⟩ : ByteArray)] : List ByteArray)) (inner := [.string (⟨#[116, 114, 117, 101]⟩ : ByteArray), .string (⟨#[102, 97, 108, 115, 101]⟩ : ByteArray)]) (ok := fun _ => True) (okp := fun _ => True) ?hr ?hp (fun _ hk => hk) trivial (Below.refl _ _) (Nat.le_refl _) (by simp) ?_; (case hd => rfl); (case hg => rfl); (case hr => first | (go_simp; done) | (go_simp; rfl)); (case hp => exact (Reps.one (show Kd.M Kd.string _ _ _ (⟨#[116, 114, 117, 101]⟩ : ByteArray) [.string (⟨#[116, 114, 117, 101]⟩ : ByteArray)] from rfl) (Reps.one (show Kd.M Kd.string _ _ _ (⟨#[102, 97, 108, 115, 101]⟩ : ByteArray) [.string (⟨#[102, 97, 108, 115, 101]⟩ : ByteArray)] from rfl) (Reps.none _ _)))); intro v266 w38 ho39 hb hg_ hnew_; clear hg_ hnew_; (first | rw [← Ny265.out] at ho39 | (simp only [Int.reduceToNat] at ho39; rw [← Ny265.out] at ho39)); have n0_ := Aside0.mk (Kd.R_lower ho39 (keep_size (w := w) (g := g) (row := none) (zz11_0_ HK.out))); have n1_ := Aside0.mk (IsS47.below (zz11_1_ HI0.out) hb); have n2_ := Aside0.mk (KeepBut.trans (zz11_0_ HK.out) (KeepBut.of_below hb g none) (.inl rfl)); have n3_ := Aside0.mk (below_step (zz11_2_ HB.out HI0.out) hb); clear HI0; clear HK; clear HB; have HO267 := n0_; have HI0 := n1_; have HK := n2_; have HB := n3_; clear n0_ n1_ n2_ n3_; clear hb ho39) | ((with_reducible refine gate_callee (f := 30) rfl ?_); refine goesL_ (some 43) rfl rfl Tryz.func30 (by kernel_rfl) rfl #[.pointer (some ⟨g, 0, none⟩), .int .i64 2] rfl (zz11_3_) ?_; (with_reducible refine (spec_l20Rd_pick.calls kj5 g s0_0 x1001_5 2 t268 t269 w0 _ ?side1 ?side2 A35.out).mono ?_); (case side1 => exact zz11_1_ HI0.out); (case side2 => exact zz11_2_ HB.out HI0.out); rintro e w40 ⟨rfl, hi, hb, hk⟩; refine ⟨_, rfl, ?_⟩; have n0_ := Aside0.mk (Kd.R_mono (Kd.R_keep (IsS47.apart (show IsS47 w0 _ g s0_0 x1001_5 from by repeat (first | (with_reducible first | exact HI0.out | apply IsS47.alloc | apply IsS47.drewN | apply IsS47.drew | apply IsS47.set_1) | exact HI0.out)) (zz11_4_ HO267.out) (by decide)) hk (fun _ h => h.2)) (fun _ h => h.1)); have n1_ := Aside0.mk (KeepBut.trans (zz11_0_ HK.out) hk (.inl rfl)); have n2_ := Aside0.mk (hb); have n3_ := Aside0.mk (hi); clear HO267; clear HK; clear HB; clear HI0; have HO267 := n0_; have HK := n1_; have HB := n2_; have HI0 := n3_; clear n0_ n1_ n2_ n3_; (try clear hb); (try clear hb2); (try clear hk); (try clear hi); obtain ⟨Ao41, co41, eo41⟩ := Kd.R_slice HO267.out; subst eo41; have p270 : 0 ≤ (t268 : Int) := of_decide_eq_true (zz11_5_); have q270 : t268 < (y265.length : Int) := of_decide_eq_true (zz11_5_); obtain ⟨ad270, e270, hx270_0⟩ := Kd.at_string (Kd.R_reads' HO267.out).2.2 t268 p270 q270; cases e270; replace p270 := eq_true p270; replace q270 := eq_true q270) | ((with_reducible refine gate_dst (N := 47) rfl ?_); refine Kd.R_lit k35 _ 35 ?hg (N := 47) ?hd (xs := ([(⟨3, rdOf ByteArray.empty y265 t268, 0⟩ : S35)] : List (S35))) (inner := [.int .i64 3, .string (rdOf ByteArray.empty y265 t268), .int .i64 0]) (ok := fun _ => True) (okp := fun _ => True) ?hr ?hp (fun _ hk => hk) trivial (Below.refl _ _) (Nat.le_refl _) (by simp) ?_; (case hd => rfl); (case hg => rfl); (case hr => first | (go_simp; done) | (go_simp; rfl)); (case hp => exact (Reps.c3 (show Kd.M k35 _ _ _ (⟨3, rdOf ByteArray.empty y265 t268, 0⟩ : S35) [.int .i64 3, .string (rdOf ByteArray.empty y265 t268), .int .i64 0] from (k35_mkM _ _ _ (⟨3, rdOf ByteArray.empty y265 t268, 0⟩ : S35) )) (Reps.none _ _))); intro v272 w42 ho43 hb hg_ hnew_; clear hg_ hnew_; (first | rw [← Ny271.out] at ho43 | (simp only [Int.reduceToNat] at ho43; rw [← Ny271.out] at ho43)); have n0_ := Aside0.mk (Kd.R_below (zz11_4_ HO267.out) hb); have n1_ := Aside0.mk (Kd.R_lower ho43 (keep_size (w := w) (g := g) (row := none) (zz11_0_ HK.out))); have n2_ := Aside0.mk (IsS47.below (zz11_1_ HI0.out) hb); have n3_ := Aside0.mk (KeepBut.trans (zz11_0_ HK.out) (KeepBut.of_below hb g none) (.inl rfl)); have n4_ := Aside0.mk (below_step (zz11_2_ HB.out HI0.out) hb); clear HO267; clear HI0; clear HK; clear HB; have HO267 := n0_; have HO273 := n1_; have HI0 := n2_; have HK := n3_; have HB := n4_; clear n0_ n1_ n2_ n3_ n4_; clear hb ho43))
          go_ret
          exact ⟨_, by first | rfl | (simp [errW_none, errW_some] <;> rfl) | (simp [*, errW_none, errW_some] <;> rfl), zz11_4_ HO273.out, zz11_1_ HI0.out, zz11_2_ HB.out HI0.out, zz11_0_ HK.out⟩
         ·rw [if_neg c37] at H
          exact absurd H (by simp)
        ·rw [if_neg c36] at H
         exact absurd H (by simp)
       ·rw [if_neg c34] at H
        have c34b0 : (x5_5 == 3) = false := beq_eq_false_iff_ne.mpr c34
        have c34b1 : (x5_5 != 3) = true := bne_iff_ne.mpr c34
        by_cases c44 : x5_5 = 4
        ·rw [if_pos c44] at H
         have c44b0 : (x5_5 == 4) = true := beq_iff_eq.mpr c44
         have c44b1 : (x5_5 != 4) = false := bne_eq_false_iff_eq.mpr c44
         clear c44
         replace H := Option.bind_eq_some_iff.mp H
         obtain ⟨⟨t274, t275⟩, A450, H⟩ := H
         try dsimp only at H
         have A45 := Aside0.mk A450
         clear A450
         obtain ⟨y276, hy276⟩ : ∃ y_ : List (S35), y_ = (([(⟨4, t274, 0⟩ : S35)] : List (S35))) := ⟨_, rfl⟩
         replace H : (some (y276, t275)) = some (r1, r2) := by first | (rw [hy276]; with_reducible exact H) | (have H2_ := (Option.bind_some _ _).symm.trans H; rw [hy276]; with_reducible exact H2_) | (have H2_ := (Option.bind_some _ _).symm.trans H; with_reducible exact H2_) | with_reducible exact H | (rw [hy276]; exact H) | exact H
         have Ny276 := Aside0.mk hy276
         clear hy276
         simp only [Option.some.injEq, Prod.mk.injEq] at H
         obtain ⟨rfl, rfl⟩ := H
         go_wp2_with (first | ((with_reducible refine gate_callee (f := 53) rfl ?_); refine goesL_ (some 51) rfl rfl Tryz.func53 (by kernel_rfl) rfl #[.pointer (some ⟨g, 0, none⟩), .int .i64 0] rfl (zz11_3_) ?_; (with_reducible refine (spec_l20Name.calls kj5 g s0_0 x1001_5 0 t274 t275 w0 _ ?side1 ?side2 A45.out).mono ?_); (case side1 => exact zz11_1_ HI0.out); (case side2 => exact zz11_2_ HB.out HI0.out); rintro e w46 ⟨rfl, hi, hb, hk⟩; refine ⟨_, rfl, ?_⟩; have n0_ := Aside0.mk (KeepBut.trans (zz11_0_ HK.out) hk (.inl rfl)); have n1_ := Aside0.mk (hb); have n2_ := Aside0.mk (hi); clear HK; clear HB; clear HI0; have HK := n0_; have HB := n1_; have HI0 := n2_; clear n0_ n1_ n2_; (try clear hb); (try clear hb2); (try clear hk); (try clear hi)) | ((with_reducible refine gate_dst (N := 53) rfl ?_); refine Kd.R_lit k35 _ 35 ?hg (N := 53) ?hd (xs := ([(⟨4, t274, 0⟩ : S35)] : List (S35))) (inner := [.int .i64 4, .string t274, .int .i64 0]) (ok := fun _ => True) (okp := fun _ => True) ?hr ?hp (fun _ hk => hk) trivial (Below.refl _ _) (Nat.le_refl _) (by simp) ?_; (case hd => rfl); (case hg => rfl); (case hr => first | (go_simp; done) | (go_simp; rfl)); (case hp => exact (Reps.c3 (show Kd.M k35 _ _ _ (⟨4, t274, 0⟩ : S35) [.int .i64 4, .string t274, .int .i64 0] from (k35_mkM _ _ _ (⟨4, t274, 0⟩ : S35) )) (Reps.none _ _))); intro v277 w47 ho48 hb hg_ hnew_; clear hg_ hnew_; (first | rw [← Ny276.out] at ho48 | (simp only [Int.reduceToNat] at ho48; rw [← Ny276.out] at ho48)); have n0_ := Aside0.mk (Kd.R_lower ho48 (keep_size (w := w) (g := g) (row := none) (zz11_0_ HK.out))); have n1_ := Aside0.mk (IsS47.below (zz11_1_ HI0.out) hb); have n2_ := Aside0.mk (KeepBut.trans (zz11_0_ HK.out) (KeepBut.of_below hb g none) (.inl rfl)); have n3_ := Aside0.mk (below_step (zz11_2_ HB.out HI0.out) hb); clear HI0; clear HK; clear HB; have HO278 := n0_; have HI0 := n1_; have HK := n2_; have HB := n3_; clear n0_ n1_ n2_ n3_; clear hb ho48))
         go_ret
         exact ⟨_, by first | rfl | (simp [errW_none, errW_some] <;> rfl) | (simp [*, errW_none, errW_some] <;> rfl), zz11_4_ HO278.out, zz11_1_ HI0.out, zz11_2_ HB.out HI0.out, zz11_0_ HK.out⟩
        ·rw [if_neg c44] at H
         have c44b0 : (x5_5 == 4) = false := beq_eq_false_iff_ne.mpr c44
         have c44b1 : (x5_5 != 4) = true := bne_iff_ne.mpr c44
         replace H := Option.bind_eq_some_iff.mp H
         obtain ⟨⟨t279, t280⟩, A490, H⟩ := H
         try dsimp only at H
         have A49 := Aside0.mk A490
         clear A490
         replace H := Option.bind_eq_some_iff.mp H
         obtain ⟨⟨t281, t282⟩, A500, H⟩ := H
         try dsimp only at H
         have A50 := Aside0.mk A500
         clear A500
         obtain ⟨y283, hy283⟩ : ∃ y_ : List Int, y_ = (([0, 0, 0, 0, 0, t279, wrap64 (1 + t281), 1, 2, 3] : List Int)) := ⟨_, rfl⟩
         replace H : (if 0 ≤ x5_5 then (if x5_5 < (y283.length : Int) then (if x5_5 = 6 then ((some (([(⟨#[108, 101, 110, 103, 116, 104]⟩ : ByteArray), (⟨#[117, 112, 112, 101, 114]⟩ : ByteArray), (⟨#[109, 105, 110]⟩ : ByteArray), (⟨#[109, 97, 120]⟩ : ByteArray), (⟨#[102, 105, 114, 115, 116]⟩ : ByteArray), (⟨#[114, 101, 118, 101, 114, 115, 101]⟩ : ByteArray), (⟨#[99, 111, 110, 116, 97, 105, 110, 115]⟩ : ByteArray), (⟨#[106, 111, 105, 110]⟩ : ByteArray), (⟨#[102]⟩ : ByteArray)] : List ByteArray) : List ByteArray)).bind fun y287 => ((spec_l20Rd_pick.f kj5 s0_0 t282 9).bind fun bt290 => (if 0 ≤ bt290.1 then (if bt290.1 < (y287.length : Int) then (spec_l20Cells.j1 kj5 a1 x5_5 (rd y283 x5_5) (rdOf ByteArray.empty y287 bt290.1) s0_0 bt290.2) else (none)) else (none)))) else (if x5_5 = 7 then ((some (([(⟨#[33]⟩ : ByteArray), (⟨#[45]⟩ : ByteArray)] : List ByteArray) : List ByteArray)).bind fun y293 => ((spec_l20Rd_pick.f kj5 s0_0 t282 2).bind fun bt296 => (if 0 ≤ bt296.1 then (if bt296.1 < (y293.length : Int) then (spec_l20Cells.j1 kj5 a1 x5_5 (rd y283 x5_5) (rdOf ByteArray.empty y293 bt296.1) s0_0 bt296.2) else (none)) else (none)))) else (if x5_5 = 8 then ((some (([(⟨#[124, 124]⟩ : ByteArray), (⟨#[38, 38]⟩ : ByteArray), (⟨#[61, 61]⟩ : ByteArray), (⟨#[33, 61]⟩ : ByteArray), (⟨#[60]⟩ : ByteArray), (⟨#[60, 61]⟩ : ByteArray), (⟨#[62]⟩ : ByteArray), (⟨#[62, 61]⟩ : ByteArray), (⟨#[43]⟩ : ByteArray), (⟨#[45]⟩ : ByteArray), (⟨#[42]⟩ : ByteArray), (⟨#[47]⟩ : ByteArray), (⟨#[37]⟩ : ByteArray), (⟨#[38, 38]⟩ : ByteArray), (⟨#[43]⟩ : ByteArray)] : List ByteArray) : List ByteArray)).bind fun y299 => ((spec_l20Rd_pick.f kj5 s0_0 t282 15).bind fun bt302 => (if 0 ≤ bt302.1 then (if bt302.1 < (y299.length : Int) then (spec_l20Cells.j1 kj5 a1 x5_5 (rd y283 x5_5) (rdOf ByteArray.empty y299 bt302.1) s0_0 bt302.2) else (none)) else (none)))) else (spec_l20Cells.j1 kj5 a1 x5_5 (rd y283 x5_5) (⟨#[]⟩ : ByteArray) s0_0 t282)))) else (none)) else (none)) = some (r1, r2) := by first | (rw [hy283]; with_reducible exact H) | (have H2_ := (Option.bind_some _ _).symm.trans H; rw [hy283]; with_reducible exact H2_) | (have H2_ := (Option.bind_some _ _).symm.trans H; with_reducible exact H2_) | with_reducible exact H | (rw [hy283]; exact H) | exact H
         have Ny283 := Aside0.mk hy283
         clear hy283
         by_cases c51 : 0 ≤ x5_5
         ·rw [if_pos c51] at H
          have c51b0 : decide (0 ≤ x5_5) = true := decide_eq_true c51
          clear c51
          by_cases c52 : x5_5 < (y283.length : Int)
          ·rw [if_pos c52] at H
           have c52b0 : decide (x5_5 < (y283.length : Int)) = true := decide_eq_true c52
           clear c52
           have HC53 := Aside0.mk H
           clear H
           go_upto_block 1 with (first | ((with_reducible refine gate_callee (f := 30) rfl ?_); refine goesL_ (some 55) rfl rfl Tryz.func30 (by kernel_rfl) rfl #[.pointer (some ⟨g, 0, none⟩), .int .i64 3] rfl (zz11_3_) ?_; (with_reducible refine (spec_l20Rd_pick.calls kj5 g s0_0 x1001_5 3 t279 t280 w0 _ ?side1 ?side2 A49.out).mono ?_); (case side1 => exact zz11_1_ HI0.out); (case side2 => exact zz11_2_ HB.out HI0.out); rintro e w54 ⟨rfl, hi, hb, hk⟩; refine ⟨_, rfl, ?_⟩; have n0_ := Aside0.mk (KeepBut.trans (zz11_0_ HK.out) hk (.inl rfl)); have n1_ := Aside0.mk (hb); have n2_ := Aside0.mk (hi); clear HK; clear HB; clear HI0; have HK := n0_; have HB := n1_; have HI0 := n2_; clear n0_ n1_ n2_; (try clear hb); (try clear hb2); (try clear hk); (try clear hi)) | ((with_reducible refine gate_callee (f := 30) rfl ?_); refine goesL_ (some 57) rfl rfl Tryz.func30 (by kernel_rfl) rfl #[.pointer (some ⟨g, 0, none⟩), .int .i64 2] rfl (zz11_3_) ?_; (with_reducible refine (spec_l20Rd_pick.calls kj5 g s0_0 t280 2 t281 t282 w0 _ ?side1 ?side2 A50.out).mono ?_); (case side1 => exact zz11_1_ HI0.out); (case side2 => exact zz11_2_ HB.out HI0.out); rintro e w55 ⟨rfl, hi, hb, hk⟩; refine ⟨_, rfl, ?_⟩; have n0_ := Aside0.mk (KeepBut.trans (zz11_0_ HK.out) hk (.inl rfl)); have n1_ := Aside0.mk (hb); have n2_ := Aside0.mk (hi); clear HK; clear HB; clear HI0; have HK := n0_; have HB := n1_; have HI0 := n2_; clear n0_ n1_ n2_; (try clear hb); (try clear hb2); (try clear hk); (try clear hi)) | ((with_reducible refine gate_dst (N := 59) rfl ?_); refine Kd.R_lit (Kd.int .i64) _ 3 ?hg (N := 59) ?hd (xs := ([0, 0, 0, 0, 0, t279, wrap64 (1 + t281), 1, 2, 3] : List Int)) (inner := [.int .i64 0, .int .i64 0, .int .i64 0, .int .i64 0, .int .i64 0, .int .i64 t279, .int .i64 (wrap64 (1 + t281)), .int .i64 1, .int .i64 2, .int .i64 3]) (ok := fun _ => True) (okp := fun _ => True) ?hr ?hp (fun _ hk => hk) trivial (Below.refl _ _) (Nat.le_refl _) (by simp) ?_; (case hd => rfl); (case hg => rfl); (case hr => first | (go_simp; done) | (go_simp; rfl)); (case hp => exact (Reps.one (show Kd.M (Kd.int .i64) _ _ _ 0 [.int .i64 0] from rfl) (Reps.one (show Kd.M (Kd.int .i64) _ _ _ 0 [.int .i64 0] from rfl) (Reps.one (show Kd.M (Kd.int .i64) _ _ _ 0 [.int .i64 0] from rfl) (Reps.one (show Kd.M (Kd.int .i64) _ _ _ 0 [.int .i64 0] from rfl) (Reps.one (show Kd.M (Kd.int .i64) _ _ _ 0 [.int .i64 0] from rfl) (Reps.one (show Kd.M (Kd.int .i64) _ _ _ t279 [.int .i64 t279] from rfl) (Reps.one (show Kd.M (Kd.int .i64) _ _ _ (wrap64 (1 + t281)) [.int .i64 (wrap64 (1 + t281))] from rfl) (Reps.one (show Kd.M (Kd.int .i64) _ _ _ 1 [.int .i64 1] from rfl) (Reps.one (show Kd.M (Kd.int .i64) _ _ _ 2 [.int .i64 2] from rfl) (Reps.one (show Kd.M (Kd.int .i64) _ _ _ 3 [.int .i64 3] from rfl) (Reps.none _ _)))))))))))); intro v284 w56 ho57 hb hg_ hnew_; clear hg_ hnew_; (first | rw [← Ny283.out] at ho57 | (simp only [Int.reduceToNat] at ho57; rw [← Ny283.out] at ho57)); have n0_ := Aside0.mk (Kd.R_lower ho57 (keep_size (w := w) (g := g) (row := none) (zz11_0_ HK.out))); have n1_ := Aside0.mk (IsS47.below (zz11_1_ HI0.out) hb); have n2_ := Aside0.mk (KeepBut.trans (zz11_0_ HK.out) (KeepBut.of_below hb g none) (.inl rfl)); have n3_ := Aside0.mk (below_step (zz11_2_ HB.out HI0.out) hb); clear HI0; clear HK; clear HB; have HO285 := n0_; have HI0 := n1_; have HK := n2_; have HB := n3_; clear n0_ n1_ n2_ n3_; clear hb ho57; obtain ⟨Ao58, co58, eo58⟩ := Kd.R_slice HO285.out; subst eo58; have p286 : 0 ≤ (x5_5 : Int) := of_decide_eq_true (zz11_5_); have q286 : x5_5 < (y283.length : Int) := of_decide_eq_true (zz11_5_); obtain ⟨ad286, e286, hx286_0⟩ := Kd.at_int (Kd.R_reads' HO285.out).2.2 x5_5 p286 q286; cases e286; replace p286 := eq_true p286; replace q286 := eq_true q286))
           (try simp only [Act.put, List.setIfInBounds_toArray, List.set_cons_zero, List.set_cons_succ])
           go_cut [7] (fun v7 wc => ∃ (kq : Nat) (x7_52 : ByteArray) (x1001_52 : Int), v7 = .string x7_52 ∧ Aside0 (spec_l20Cells.j1 kq a1 x5_5 (rd y283 x5_5) x7_52 s0_0 x1001_52 = some (r1, r2)) ∧ Aside0 (kq ≤ kj5) ∧ Aside0 (IsS47 w0 wc g s0_0 x1001_52) ∧ Aside0 (KeepBut w wc g none) ∧ Aside0 (Below w0.heap.size w0 wc))
           case first =>
            have H := HC53.out
            clear HC53
            by_cases c59 : x5_5 = 6
            ·rw [if_pos c59] at H
             have c59b0 : (x5_5 == 6) = true := beq_iff_eq.mpr c59
             have c59b1 : (x5_5 != 6) = false := bne_eq_false_iff_eq.mpr c59
             clear c59
             (first | rw [c59b0] | (simp only [i64_w, i32_w]; rw [c59b0]) | skip)
             obtain ⟨y287, hy287⟩ : ∃ y_ : List ByteArray, y_ = (([(⟨#[108, 101, 110, 103, 116, 104]⟩ : ByteArray), (⟨#[117, 112, 112, 101, 114]⟩ : ByteArray), (⟨#[109, 105, 110]⟩ : ByteArray), (⟨#[109, 97, 120]⟩ : ByteArray), (⟨#[102, 105, 114, 115, 116]⟩ : ByteArray), (⟨#[114, 101, 118, 101, 114, 115, 101]⟩ : ByteArray), (⟨#[99, 111, 110, 116, 97, 105, 110, 115]⟩ : ByteArray), (⟨#[106, 111, 105, 110]⟩ : ByteArray), (⟨#[102]⟩ : ByteArray)] : List ByteArray)) := ⟨_, rfl⟩
             replace H : ((spec_l20Rd_pick.f kj5 s0_0 t282 9).bind fun bt290 => (if 0 ≤ bt290.1 then (if bt290.1 < (y287.length : Int) then (spec_l20Cells.j1 kj5 a1 x5_5 (rd y283 x5_5) (rdOf ByteArray.empty y287 bt290.1) s0_0 bt290.2) else (none)) else (none))) = some (r1, r2) := by first | (rw [hy287]; with_reducible exact H) | (have H2_ := (Option.bind_some _ _).symm.trans H; rw [hy287]; with_reducible exact H2_) | (have H2_ := (Option.bind_some _ _).symm.trans H; with_reducible exact H2_) | with_reducible exact H | (rw [hy287]; exact H) | exact H
             have Ny287 := Aside0.mk hy287
             clear hy287
             replace H := Option.bind_eq_some_iff.mp H
             obtain ⟨⟨t290, t291⟩, A600, H⟩ := H
             try dsimp only at H
             have A60 := Aside0.mk A600
             clear A600
             by_cases c61 : 0 ≤ t290
             ·rw [if_pos c61] at H
              have c61b0 : decide (0 ≤ t290) = true := decide_eq_true c61
              clear c61
              by_cases c62 : t290 < (y287.length : Int)
              ·rw [if_pos c62] at H
               have c62b0 : decide (t290 < (y287.length : Int)) = true := decide_eq_true c62
               clear c62
               have H' := Aside0.mk H
               clear H
               go_wp2_with (first | ((with_reducible refine gate_dst (N := 66) rfl ?_); refine Kd.R_lit Kd.string _ 9 ?hg (N := 66) ?hd (xs := ([(⟨#[108, 101, 110, 103, 116, 104]⟩ : ByteArray), (⟨#[117, 112, 112, 101, 114]⟩ : ByteArray), (⟨#[109, 105, 110]⟩ : ByteArray), (⟨#[109, 97, 120]⟩ : ByteArray), (⟨#[102, 105, 114, 115, 116]⟩ : ByteArray), (⟨#[114, 101, 118, 101, 114, 115, 101]⟩ : ByteArray), (⟨#[99, 111, 110, 116, 97, 105, 110, 115]⟩ : ByteArray), (⟨#[106, 111, 105, 110]⟩ : ByteArray), (⟨#[102]⟩ : ByteArray)] : List ByteArray)) (inner := [.string (⟨#[108, 101, 110, 103, 116, 104]⟩ : ByteArray), .string (⟨#[117, 112, 112, 101, 114]⟩ : ByteArray), .string (⟨#[109, 105, 110]⟩ : ByteArray), .string (⟨#[109, 97, 120]⟩ : ByteArray), .string (⟨#[102, 105, 114, 115, 116]⟩ : ByteArray), .string (⟨#[114, 101, 118, 101, 114, 115, 101]⟩ : ByteArray), .string (⟨#[99, 111, 110, 116, 97, 105, 110, 115]⟩ : ByteArray), .string (⟨#[106, 111, 105, 110]⟩ : ByteArray), .string (⟨#[102]⟩ : ByteArray)]) (ok := fun _ => True) (okp := fun _ => True) ?hr ?hp (fun _ hk => hk) trivial (Below.refl _ _) (Nat.le_refl _) (by simp) ?_; (case hd => rfl); (case hg => rfl); (case hr => first | (go_simp; done) | (go_simp; rfl)); (case hp => exact (Reps.one (show Kd.M Kd.string _ _ _ (⟨#[108, 101, 110, 103, 116, 104]⟩ : ByteArray) [.string (⟨#[108, 101, 110, 103, 116, 104]⟩ : ByteArray)] from rfl) (Reps.one (show Kd.M Kd.string _ _ _ (⟨#[117, 112, 112, 101, 114]⟩ : ByteArray) [.string (⟨#[117, 112, 112, 101, 114]⟩ : ByteArray)] from rfl) (Reps.one (show Kd.M Kd.string _ _ _ (⟨#[109, 105, 110]⟩ : ByteArray) [.string (⟨#[109, 105, 110]⟩ : ByteArray)] from rfl) (Reps.one (show Kd.M Kd.string _ _ _ (⟨#[109, 97, 120]⟩ : ByteArray) [.string (⟨#[109, 97, 120]⟩ : ByteArray)] from rfl) (Reps.one (show Kd.M Kd.string _ _ _ (⟨#[102, 105, 114, 115, 116]⟩ : ByteArray) [.string (⟨#[102, 105, 114, 115, 116]⟩ : ByteArray)] from rfl) (Reps.one (show Kd.M Kd.string _ _ _ (⟨#[114, 101, 118, 101, 114, 115, 101]⟩ : ByteArray) [.string (⟨#[114, 101, 118, 101, 114, 115, 101]⟩ : ByteArray)] from rfl) (Reps.one (show Kd.M Kd.string _ _ _ (⟨#[99, 111, 110, 116, 97, 105, 110, 115]⟩ : ByteArray) [.string (⟨#[99, 111, 110, 116, 97, 105, 110, 115]⟩ : ByteArray)] from rfl) (Reps.one (show Kd.M Kd.string _ _ _ (⟨#[106, 111, 105, 110]⟩ : ByteArray) [.string (⟨#[106, 111, 105, 110]⟩ : ByteArray)] from rfl) (Reps.one (show Kd.M Kd.string _ _ _ (⟨#[102]⟩ : ByteArray) [.string (⟨#[102]⟩ : ByteArray)] from rfl) (Reps.none _ _))))))))))); intro v288 w63 ho64 hb hg_ hnew_; clear hg_ hnew_; (first | rw [← Ny287.out] at ho64 | (simp only [Int.reduceToNat] at ho64; rw [← Ny287.out] at ho64)); have n0_ := Aside0.mk (Kd.R_below (zz11_4_ HO285.out) hb); have n1_ := Aside0.mk (Kd.R_lower ho64 (keep_size (w := w) (g := g) (row := none) (zz11_0_ HK.out))); have n2_ := Aside0.mk (IsS47.below (zz11_1_ HI0.out) hb); have n3_ := Aside0.mk (KeepBut.trans (zz11_0_ HK.out) (KeepBut.of_below hb g none) (.inl rfl)); have n4_ := Aside0.mk (below_step (zz11_2_ HB.out HI0.out) hb); clear HO285; clear HI0; clear HK; clear HB; have HO285 := n0_; have HO289 := n1_; have HI0 := n2_; have HK := n3_; have HB := n4_; clear n0_ n1_ n2_ n3_ n4_; clear hb ho64) | ((with_reducible refine gate_callee (f := 30) rfl ?_); refine goesL_ (some 68) rfl rfl Tryz.func30 (by kernel_rfl) rfl #[.pointer (some ⟨g, 0, none⟩), .int .i64 9] rfl (zz11_3_) ?_; (with_reducible refine (spec_l20Rd_pick.calls kj5 g s0_0 t282 9 t290 t291 w0 _ ?side1 ?side2 A60.out).mono ?_); (case side1 => exact zz11_1_ HI0.out); (case side2 => exact zz11_2_ HB.out HI0.out); rintro e w65 ⟨rfl, hi, hb, hk⟩; refine ⟨_, rfl, ?_⟩; have n0_ := Aside0.mk (Kd.R_mono (Kd.R_keep (IsS47.apart (show IsS47 w0 _ g s0_0 t282 from by repeat (first | (with_reducible first | exact HI0.out | apply IsS47.alloc | apply IsS47.drewN | apply IsS47.drew | apply IsS47.set_1) | exact HI0.out)) (zz11_4_ HO285.out) (by decide)) hk (fun _ h => h.2)) (fun _ h => h.1)); have n1_ := Aside0.mk (Kd.R_mono (Kd.R_keep (IsS47.apart (show IsS47 w0 _ g s0_0 t282 from by repeat (first | (with_reducible first | exact HI0.out | apply IsS47.alloc | apply IsS47.drewN | apply IsS47.drew | apply IsS47.set_1) | exact HI0.out)) (zz11_4_ HO289.out) (by decide)) hk (fun _ h => h.2)) (fun _ h => h.1)); have n2_ := Aside0.mk (KeepBut.trans (zz11_0_ HK.out) hk (.inl rfl)); have n3_ := Aside0.mk (hb); have n4_ := Aside0.mk (hi); clear HO285; clear HO289; clear HK; clear HB; clear HI0; have HO285 := n0_; have HO289 := n1_; have HK := n2_; have HB := n3_; have HI0 := n4_; clear n0_ n1_ n2_ n3_ n4_; (try clear hb); (try clear hb2); (try clear hk); (try clear hi); obtain ⟨Ao66, co66, eo66⟩ := Kd.R_slice HO289.out; subst eo66; have p292 : 0 ≤ (t290 : Int) := of_decide_eq_true (zz11_5_); have q292 : t290 < (y287.length : Int) := of_decide_eq_true (zz11_5_); obtain ⟨ad292, e292, hx292_0⟩ := Kd.at_string (Kd.R_reads' HO289.out).2.2 t290 p292 q292; cases e292; replace p292 := eq_true p292; replace q292 := eq_true q292))
               go_meet
               case rel => exact ⟨_, (rdOf ByteArray.empty y287 t290), (t291), (by first | rfl | (simp; done) | (simp [*]; done)), H', ⟨by have := HJ5.out; first | omega | exact Nat.le_refl _⟩, ⟨zz11_1_ HI0.out⟩, ⟨zz11_0_ HK.out⟩, ⟨zz11_2_ HB.out HI0.out⟩⟩
              ·rw [if_neg c62] at H
               exact absurd H (by simp)
             ·rw [if_neg c61] at H
              exact absurd H (by simp)
            ·rw [if_neg c59] at H
             have c59b0 : (x5_5 == 6) = false := beq_eq_false_iff_ne.mpr c59
             have c59b1 : (x5_5 != 6) = true := bne_iff_ne.mpr c59
             (first | rw [c59b0] | (simp only [i64_w, i32_w]; rw [c59b0]) | skip)
             by_cases c67 : x5_5 = 7
             ·rw [if_pos c67] at H
              have c67b0 : (x5_5 == 7) = true := beq_iff_eq.mpr c67
              have c67b1 : (x5_5 != 7) = false := bne_eq_false_iff_eq.mpr c67
              clear c67
              obtain ⟨y293, hy293⟩ : ∃ y_ : List ByteArray, y_ = (([(⟨#[33]⟩ : ByteArray), (⟨#[45]⟩ : ByteArray)] : List ByteArray)) := ⟨_, rfl⟩
              replace H : ((spec_l20Rd_pick.f kj5 s0_0 t282 2).bind fun bt296 => (if 0 ≤ bt296.1 then (if bt296.1 < (y293.length : Int) then (spec_l20Cells.j1 kj5 a1 x5_5 (rd y283 x5_5) (rdOf ByteArray.empty y293 bt296.1) s0_0 bt296.2) else (none)) else (none))) = some (r1, r2) := by first | (rw [hy293]; with_reducible exact H) | (have H2_ := (Option.bind_some _ _).symm.trans H; rw [hy293]; with_reducible exact H2_) | (have H2_ := (Option.bind_some _ _).symm.trans H; with_reducible exact H2_) | with_reducible exact H | (rw [hy293]; exact H) | exact H
              have Ny293 := Aside0.mk hy293
              clear hy293
              replace H := Option.bind_eq_some_iff.mp H
              obtain ⟨⟨t296, t297⟩, A680, H⟩ := H
              try dsimp only at H
              have A68 := Aside0.mk A680
              clear A680
              by_cases c69 : 0 ≤ t296
              ·rw [if_pos c69] at H
               have c69b0 : decide (0 ≤ t296) = true := decide_eq_true c69
               clear c69
               by_cases c70 : t296 < (y293.length : Int)
               ·rw [if_pos c70] at H
                have c70b0 : decide (t296 < (y293.length : Int)) = true := decide_eq_true c70
                clear c70
                have H' := Aside0.mk H
                clear H
                go_wp2_with (first | ((with_reducible refine gate_dst (N := 73) rfl ?_); refine Kd.R_lit Kd.string _ 9 ?hg (N := 73) ?hd (xs := ([(⟨#[33]⟩ : ByteArray), (⟨#[45]⟩ : ByteArray)] : List ByteArray)) (inner := [.string (⟨#[33]⟩ : ByteArray), .string (⟨#[45]⟩ : ByteArray)]) (ok := fun _ => True) (okp := fun _ => True) ?hr ?hp (fun _ hk => hk) trivial (Below.refl _ _) (Nat.le_refl _) (by simp) ?_; (case hd => rfl); (case hg => rfl); (case hr => first | (go_simp; done) | (go_simp; rfl)); (case hp => exact (Reps.one (show Kd.M Kd.string _ _ _ (⟨#[33]⟩ : ByteArray) [.string (⟨#[33]⟩ : ByteArray)] from rfl) (Reps.one (show Kd.M Kd.string _ _ _ (⟨#[45]⟩ : ByteArray) [.string (⟨#[45]⟩ : ByteArray)] from rfl) (Reps.none _ _)))); intro v294 w71 ho72 hb hg_ hnew_; clear hg_ hnew_; (first | rw [← Ny293.out] at ho72 | (simp only [Int.reduceToNat] at ho72; rw [← Ny293.out] at ho72)); have n0_ := Aside0.mk (Kd.R_below (zz11_4_ HO285.out) hb); have n1_ := Aside0.mk (Kd.R_lower ho72 (keep_size (w := w) (g := g) (row := none) (zz11_0_ HK.out))); have n2_ := Aside0.mk (IsS47.below (zz11_1_ HI0.out) hb); have n3_ := Aside0.mk (KeepBut.trans (zz11_0_ HK.out) (KeepBut.of_below hb g none) (.inl rfl)); have n4_ := Aside0.mk (below_step (zz11_2_ HB.out HI0.out) hb); clear HO285; clear HI0; clear HK; clear HB; have HO285 := n0_; have HO295 := n1_; have HI0 := n2_; have HK := n3_; have HB := n4_; clear n0_ n1_ n2_ n3_ n4_; clear hb ho72) | ((with_reducible refine gate_callee (f := 30) rfl ?_); refine goesL_ (some 75) rfl rfl Tryz.func30 (by kernel_rfl) rfl #[.pointer (some ⟨g, 0, none⟩), .int .i64 2] rfl (zz11_3_) ?_; (with_reducible refine (spec_l20Rd_pick.calls kj5 g s0_0 t282 2 t296 t297 w0 _ ?side1 ?side2 A68.out).mono ?_); (case side1 => exact zz11_1_ HI0.out); (case side2 => exact zz11_2_ HB.out HI0.out); rintro e w73 ⟨rfl, hi, hb, hk⟩; refine ⟨_, rfl, ?_⟩; have n0_ := Aside0.mk (Kd.R_mono (Kd.R_keep (IsS47.apart (show IsS47 w0 _ g s0_0 t282 from by repeat (first | (with_reducible first | exact HI0.out | apply IsS47.alloc | apply IsS47.drewN | apply IsS47.drew | apply IsS47.set_1) | exact HI0.out)) (zz11_4_ HO285.out) (by decide)) hk (fun _ h => h.2)) (fun _ h => h.1)); have n1_ := Aside0.mk (Kd.R_mono (Kd.R_keep (IsS47.apart (show IsS47 w0 _ g s0_0 t282 from by repeat (first | (with_reducible first | exact HI0.out | apply IsS47.alloc | apply IsS47.drewN | apply IsS47.drew | apply IsS47.set_1) | exact HI0.out)) (zz11_4_ HO295.out) (by decide)) hk (fun _ h => h.2)) (fun _ h => h.1)); have n2_ := Aside0.mk (KeepBut.trans (zz11_0_ HK.out) hk (.inl rfl)); have n3_ := Aside0.mk (hb); have n4_ := Aside0.mk (hi); clear HO285; clear HO295; clear HK; clear HB; clear HI0; have HO285 := n0_; have HO295 := n1_; have HK := n2_; have HB := n3_; have HI0 := n4_; clear n0_ n1_ n2_ n3_ n4_; (try clear hb); (try clear hb2); (try clear hk); (try clear hi); obtain ⟨Ao74, co74, eo74⟩ := Kd.R_slice HO295.out; subst eo74; have p298 : 0 ≤ (t296 : Int) := of_decide_eq_true (zz11_5_); have q298 : t296 < (y293.length : Int) := of_decide_eq_true (zz11_5_); obtain ⟨ad298, e298, hx298_0⟩ := Kd.at_string (Kd.R_reads' HO295.out).2.2 t296 p298 q298; cases e298; replace p298 := eq_true p298; replace q298 := eq_true q298))
                go_meet
                case rel => exact ⟨_, (rdOf ByteArray.empty y293 t296), (t297), (by first | rfl | (simp; done) | (simp [*]; done)), H', ⟨by have := HJ5.out; first | omega | exact Nat.le_refl _⟩, ⟨zz11_1_ HI0.out⟩, ⟨zz11_0_ HK.out⟩, ⟨zz11_2_ HB.out HI0.out⟩⟩
               ·rw [if_neg c70] at H
                exact absurd H (by simp)
              ·rw [if_neg c69] at H
               exact absurd H (by simp)
             ·rw [if_neg c67] at H
              have c67b0 : (x5_5 == 7) = false := beq_eq_false_iff_ne.mpr c67
              have c67b1 : (x5_5 != 7) = true := bne_iff_ne.mpr c67
              by_cases c75 : x5_5 = 8
              ·rw [if_pos c75] at H
               have c75b0 : (x5_5 == 8) = true := beq_iff_eq.mpr c75
               have c75b1 : (x5_5 != 8) = false := bne_eq_false_iff_eq.mpr c75
               clear c75
               obtain ⟨y299, hy299⟩ : ∃ y_ : List ByteArray, y_ = (([(⟨#[124, 124]⟩ : ByteArray), (⟨#[38, 38]⟩ : ByteArray), (⟨#[61, 61]⟩ : ByteArray), (⟨#[33, 61]⟩ : ByteArray), (⟨#[60]⟩ : ByteArray), (⟨#[60, 61]⟩ : ByteArray), (⟨#[62]⟩ : ByteArray), (⟨#[62, 61]⟩ : ByteArray), (⟨#[43]⟩ : ByteArray), (⟨#[45]⟩ : ByteArray), (⟨#[42]⟩ : ByteArray), (⟨#[47]⟩ : ByteArray), (⟨#[37]⟩ : ByteArray), (⟨#[38, 38]⟩ : ByteArray), (⟨#[43]⟩ : ByteArray)] : List ByteArray)) := ⟨_, rfl⟩
               replace H : ((spec_l20Rd_pick.f kj5 s0_0 t282 15).bind fun bt302 => (if 0 ≤ bt302.1 then (if bt302.1 < (y299.length : Int) then (spec_l20Cells.j1 kj5 a1 x5_5 (rd y283 x5_5) (rdOf ByteArray.empty y299 bt302.1) s0_0 bt302.2) else (none)) else (none))) = some (r1, r2) := by first | (rw [hy299]; with_reducible exact H) | (have H2_ := (Option.bind_some _ _).symm.trans H; rw [hy299]; with_reducible exact H2_) | (have H2_ := (Option.bind_some _ _).symm.trans H; with_reducible exact H2_) | with_reducible exact H | (rw [hy299]; exact H) | exact H
               have Ny299 := Aside0.mk hy299
               clear hy299
               replace H := Option.bind_eq_some_iff.mp H
               obtain ⟨⟨t302, t303⟩, A760, H⟩ := H
               try dsimp only at H
               have A76 := Aside0.mk A760
               clear A760
               by_cases c77 : 0 ≤ t302
               ·rw [if_pos c77] at H
                have c77b0 : decide (0 ≤ t302) = true := decide_eq_true c77
                clear c77
                by_cases c78 : t302 < (y299.length : Int)
                ·rw [if_pos c78] at H
                 have c78b0 : decide (t302 < (y299.length : Int)) = true := decide_eq_true c78
                 clear c78
                 have H' := Aside0.mk H
                 clear H
                 go_wp2_with (first | ((with_reducible refine gate_dst (N := 80) rfl ?_); refine Kd.R_lit Kd.string _ 9 ?hg (N := 80) ?hd (xs := ([(⟨#[124, 124]⟩ : ByteArray), (⟨#[38, 38]⟩ : ByteArray), (⟨#[61, 61]⟩ : ByteArray), (⟨#[33, 61]⟩ : ByteArray), (⟨#[60]⟩ : ByteArray), (⟨#[60, 61]⟩ : ByteArray), (⟨#[62]⟩ : ByteArray), (⟨#[62, 61]⟩ : ByteArray), (⟨#[43]⟩ : ByteArray), (⟨#[45]⟩ : ByteArray), (⟨#[42]⟩ : ByteArray), (⟨#[47]⟩ : ByteArray), (⟨#[37]⟩ : ByteArray), (⟨#[38, 38]⟩ : ByteArray), (⟨#[43]⟩ : ByteArray)] : List ByteArray)) (inner := [.string (⟨#[124, 124]⟩ : ByteArray), .string (⟨#[38, 38]⟩ : ByteArray), .string (⟨#[61, 61]⟩ : ByteArray), .string (⟨#[33, 61]⟩ : ByteArray), .string (⟨#[60]⟩ : ByteArray), .string (⟨#[60, 61]⟩ : ByteArray), .string (⟨#[62]⟩ : ByteArray), .string (⟨#[62, 61]⟩ : ByteArray), .string (⟨#[43]⟩ : ByteArray), .string (⟨#[45]⟩ : ByteArray), .string (⟨#[42]⟩ : ByteArray), .string (⟨#[47]⟩ : ByteArray), .string (⟨#[37]⟩ : ByteArray), .string (⟨#[38, 38]⟩ : ByteArray), .string (⟨#[43]⟩ : ByteArray)]) (ok := fun _ => True) (okp := fun _ => True) ?hr ?hp (fun _ hk => hk) trivial (Below.refl _ _) (Nat.le_refl _) (by simp) ?_; (case hd => rfl); (case hg => rfl); (case hr => first | (go_simp; done) | (go_simp; rfl)); (case hp => exact (Reps.one (show Kd.M Kd.string _ _ _ (⟨#[124, 124]⟩ : ByteArray) [.string (⟨#[124, 124]⟩ : ByteArray)] from rfl) (Reps.one (show Kd.M Kd.string _ _ _ (⟨#[38, 38]⟩ : ByteArray) [.string (⟨#[38, 38]⟩ : ByteArray)] from rfl) (Reps.one (show Kd.M Kd.string _ _ _ (⟨#[61, 61]⟩ : ByteArray) [.string (⟨#[61, 61]⟩ : ByteArray)] from rfl) (Reps.one (show Kd.M Kd.string _ _ _ (⟨#[33, 61]⟩ : ByteArray) [.string (⟨#[33, 61]⟩ : ByteArray)] from rfl) (Reps.one (show Kd.M Kd.string _ _ _ (⟨#[60]⟩ : ByteArray) [.string (⟨#[60]⟩ : ByteArray)] from rfl) (Reps.one (show Kd.M Kd.string _ _ _ (⟨#[60, 61]⟩ : ByteArray) [.string (⟨#[60, 61]⟩ : ByteArray)] from rfl) (Reps.one (show Kd.M Kd.string _ _ _ (⟨#[62]⟩ : ByteArray) [.string (⟨#[62]⟩ : ByteArray)] from rfl) (Reps.one (show Kd.M Kd.string _ _ _ (⟨#[62, 61]⟩ : ByteArray) [.string (⟨#[62, 61]⟩ : ByteArray)] from rfl) (Reps.one (show Kd.M Kd.string _ _ _ (⟨#[43]⟩ : ByteArray) [.string (⟨#[43]⟩ : ByteArray)] from rfl) (Reps.one (show Kd.M Kd.string _ _ _ (⟨#[45]⟩ : ByteArray) [.string (⟨#[45]⟩ : ByteArray)] from rfl) (Reps.one (show Kd.M Kd.string _ _ _ (⟨#[42]⟩ : ByteArray) [.string (⟨#[42]⟩ : ByteArray)] from rfl) (Reps.one (show Kd.M Kd.string _ _ _ (⟨#[47]⟩ : ByteArray) [.string (⟨#[47]⟩ : ByteArray)] from rfl) (Reps.one (show Kd.M Kd.string _ _ _ (⟨#[37]⟩ : ByteArray) [.string (⟨#[37]⟩ : ByteArray)] from rfl) (Reps.one (show Kd.M Kd.string _ _ _ (⟨#[38, 38]⟩ : ByteArray) [.string (⟨#[38, 38]⟩ : ByteArray)] from rfl) (Reps.one (show Kd.M Kd.string _ _ _ (⟨#[43]⟩ : ByteArray) [.string (⟨#[43]⟩ : ByteArray)] from rfl) (Reps.none _ _))))))))))))))))); intro v300 w79 ho80 hb hg_ hnew_; clear hg_ hnew_; (first | rw [← Ny299.out] at ho80 | (simp only [Int.reduceToNat] at ho80; rw [← Ny299.out] at ho80)); have n0_ := Aside0.mk (Kd.R_below (zz11_4_ HO285.out) hb); have n1_ := Aside0.mk (Kd.R_lower ho80 (keep_size (w := w) (g := g) (row := none) (zz11_0_ HK.out))); have n2_ := Aside0.mk (IsS47.below (zz11_1_ HI0.out) hb); have n3_ := Aside0.mk (KeepBut.trans (zz11_0_ HK.out) (KeepBut.of_below hb g none) (.inl rfl)); have n4_ := Aside0.mk (below_step (zz11_2_ HB.out HI0.out) hb); clear HO285; clear HI0; clear HK; clear HB; have HO285 := n0_; have HO301 := n1_; have HI0 := n2_; have HK := n3_; have HB := n4_; clear n0_ n1_ n2_ n3_ n4_; clear hb ho80) | ((with_reducible refine gate_callee (f := 30) rfl ?_); refine goesL_ (some 82) rfl rfl Tryz.func30 (by kernel_rfl) rfl #[.pointer (some ⟨g, 0, none⟩), .int .i64 15] rfl (zz11_3_) ?_; (with_reducible refine (spec_l20Rd_pick.calls kj5 g s0_0 t282 15 t302 t303 w0 _ ?side1 ?side2 A76.out).mono ?_); (case side1 => exact zz11_1_ HI0.out); (case side2 => exact zz11_2_ HB.out HI0.out); rintro e w81 ⟨rfl, hi, hb, hk⟩; refine ⟨_, rfl, ?_⟩; have n0_ := Aside0.mk (Kd.R_mono (Kd.R_keep (IsS47.apart (show IsS47 w0 _ g s0_0 t282 from by repeat (first | (with_reducible first | exact HI0.out | apply IsS47.alloc | apply IsS47.drewN | apply IsS47.drew | apply IsS47.set_1) | exact HI0.out)) (zz11_4_ HO285.out) (by decide)) hk (fun _ h => h.2)) (fun _ h => h.1)); have n1_ := Aside0.mk (Kd.R_mono (Kd.R_keep (IsS47.apart (show IsS47 w0 _ g s0_0 t282 from by repeat (first | (with_reducible first | exact HI0.out | apply IsS47.alloc | apply IsS47.drewN | apply IsS47.drew | apply IsS47.set_1) | exact HI0.out)) (zz11_4_ HO301.out) (by decide)) hk (fun _ h => h.2)) (fun _ h => h.1)); have n2_ := Aside0.mk (KeepBut.trans (zz11_0_ HK.out) hk (.inl rfl)); have n3_ := Aside0.mk (hb); have n4_ := Aside0.mk (hi); clear HO285; clear HO301; clear HK; clear HB; clear HI0; have HO285 := n0_; have HO301 := n1_; have HK := n2_; have HB := n3_; have HI0 := n4_; clear n0_ n1_ n2_ n3_ n4_; (try clear hb); (try clear hb2); (try clear hk); (try clear hi); obtain ⟨Ao82, co82, eo82⟩ := Kd.R_slice HO301.out; subst eo82; have p304 : 0 ≤ (t302 : Int) := of_decide_eq_true (zz11_5_); have q304 : t302 < (y299.length : Int) := of_decide_eq_true (zz11_5_); obtain ⟨ad304, e304, hx304_0⟩ := Kd.at_string (Kd.R_reads' HO301.out).2.2 t302 p304 q304; cases e304; replace p304 := eq_true p304; replace q304 := eq_true q304))
                 go_meet
                 case rel => exact ⟨_, (rdOf ByteArray.empty y299 t302), (t303), (by first | rfl | (simp; done) | (simp [*]; done)), H', ⟨by have := HJ5.out; first | omega | exact Nat.le_refl _⟩, ⟨zz11_1_ HI0.out⟩, ⟨zz11_0_ HK.out⟩, ⟨zz11_2_ HB.out HI0.out⟩⟩
                ·rw [if_neg c78] at H
                 exact absurd H (by simp)
               ·rw [if_neg c77] at H
                exact absurd H (by simp)
              ·rw [if_neg c75] at H
               have c75b0 : (x5_5 == 8) = false := beq_eq_false_iff_ne.mpr c75
               have c75b1 : (x5_5 != 8) = true := bne_iff_ne.mpr c75
               have H' := Aside0.mk H
               clear H
               go_wp2
               go_meet
               case rel => exact ⟨_, ((⟨#[]⟩ : ByteArray)), (t282), (by first | rfl | (simp; done) | (simp [*]; done)), H', ⟨by have := HJ5.out; first | omega | exact Nat.le_refl _⟩, ⟨zz11_1_ HI0.out⟩, ⟨zz11_0_ HK.out⟩, ⟨zz11_2_ HB.out HI0.out⟩⟩
           case rest =>
            clear HC53
            try clear c1
            try clear c2
            try clear p2
            try clear q2
            try clear hx2
            try clear c3
            try clear p3
            try clear q3
            try clear hx3
            try clear c4
            try clear c4b0
            try clear c5
            try clear c5b0
            try clear c6
            try clear p6
            try clear c7
            try clear c11
            try clear c11b0
            try clear c14
            try clear c14b0
            try clear c14b1
            try clear c16
            try clear c16b0
            try clear c17
            try clear c17b0
            try clear c24
            try clear c24b0
            try clear c24b1
            try clear p24
            try clear q24
            try clear hx24
            try clear p25
            try clear q25
            try clear hx25
            try clear c26
            try clear c26b0
            try clear p26
            try clear q26
            try clear hx26
            try clear c27
            try clear c27b0
            try clear p27
            try clear q27
            try clear hx27
            try clear p28
            try clear q28
            try clear hx28
            try clear p29
            try clear q29
            try clear hx29
            try clear c30
            try clear p30
            try clear q30
            try clear hx30
            try clear c34
            try clear c34b0
            try clear c34b1
            try clear c35
            try clear c36
            try clear c36b0
            try clear c37
            try clear c37b0
            try clear c44
            try clear c44b0
            try clear c44b1
            try clear c51
            try clear c51b0
            try clear c52
            try clear c52b0
            try clear c53
            try clear c59
            try clear c59b0
            try clear c59b1
            try clear c61
            try clear c61b0
            try clear c62
            try clear c62b0
            try clear p64
            try clear c67
            try clear c67b0
            try clear c67b1
            try clear c69
            try clear c69b0
            try clear c70
            try clear c70b0
            try clear c75
            try clear c75b0
            try clear c75b1
            try clear c77
            try clear c77b0
            try clear c78
            try clear c78b0
            try clear hx244_0
            try clear hx252_0
            try clear hx261_0
            try clear hx270_0
            try clear hx286_0
            try clear hx292_0
            try clear hx298_0
            try clear hx304_0
            try clear p2
            try clear p244
            try clear p252
            try clear p261
            try clear p270
            try clear p286
            try clear p292
            try clear p298
            try clear p304
            try clear p6
            try clear q2
            try clear q244
            try clear q252
            try clear q261
            try clear q270
            try clear q286
            try clear q292
            try clear q298
            try clear q304
            obtain ⟨kq, x7_52, x1001_52, rfl, HA, HJ52, HI0, HK, HB⟩ := hcut
            cases kq with
            | zero => exact absurd HA.out (by simp [spec_l20Cells.j1])
            | succ kj52 =>
             have H := HA.out
             clear HA
             simp only [spec_l20Cells.j1] at H
             obtain ⟨y305, hy305⟩ : ∃ y_ : List (S35), y_ = (([(⟨x5_5, x7_52, (rd y283 x5_5)⟩ : S35)] : List (S35))) := ⟨_, rfl⟩
             replace H : (spec_l20Cells.l0 kj52 a1 (rd y283 x5_5) y305 0 s0_0 x1001_52) = some (r1, r2) := by first | (rw [hy305]; with_reducible exact H) | (have H2_ := (Option.bind_some _ _).symm.trans H; rw [hy305]; with_reducible exact H2_) | (have H2_ := (Option.bind_some _ _).symm.trans H; with_reducible exact H2_) | with_reducible exact H | (rw [hy305]; exact H) | exact H
             have Ny305 := Aside0.mk hy305
             clear hy305
             have H' := Aside0.mk H
             clear H
             go_wp2_with (first | ((with_reducible refine gate_dst (N := 89) rfl ?_); refine Kd.R_lit k35 _ 35 ?hg (N := 89) ?hd (xs := ([(⟨x5_5, x7_52, (rd y283 x5_5)⟩ : S35)] : List (S35))) (inner := [.int .i64 x5_5, .string x7_52, .int .i64 (rd y283 x5_5)]) (ok := fun _ => True) (okp := fun _ => True) ?hr ?hp (fun _ hk => hk) trivial (Below.refl _ _) (Nat.le_refl _) (by simp) ?_; (case hd => rfl); (case hg => rfl); (case hr => first | (go_simp; done) | (go_simp; rfl)); (case hp => exact (Reps.c3 (show Kd.M k35 _ _ _ (⟨x5_5, x7_52, (rd y283 x5_5)⟩ : S35) [.int .i64 x5_5, .string x7_52, .int .i64 (rd y283 x5_5)] from (k35_mkM _ _ _ (⟨x5_5, x7_52, (rd y283 x5_5)⟩ : S35) )) (Reps.none _ _))); intro v306 w83 ho84 hb hg_ hnew_; clear hg_ hnew_; (first | rw [← Ny305.out] at ho84 | (simp only [Int.reduceToNat] at ho84; rw [← Ny305.out] at ho84)); have n0_ := Aside0.mk (Kd.R_lower ho84 (keep_size (w := w) (g := g) (row := none) (zz11_0_ HK.out))); have n1_ := Aside0.mk (IsS47.below (zz11_1_ HI0.out) hb); have n2_ := Aside0.mk (KeepBut.trans (zz11_0_ HK.out) (KeepBut.of_below hb g none) (.inl rfl)); have n3_ := Aside0.mk (below_step (zz11_2_ HB.out HI0.out) hb); clear HI0; clear HK; clear HB; have HO307 := n0_; have HI0 := n1_; have HK := n2_; have HB := n3_; clear n0_ n1_ n2_ n3_; clear hb ho84))
             go_loopg [8, 9] kj52 (fun kq v8 v9 w' => ∃ (x8_3 : List (S35)) (x9_3 : Int) (x1001_3 : Int), v9 = .int .i64 x9_3 ∧ Aside0 (spec_l20Cells.l0 kq a1 (rd y283 x5_5) x8_3 x9_3 s0_0 x1001_3 = some (r1, r2)) ∧ Aside0 (kq ≤ kj52) ∧ Aside0 (Kd.R k35 35 w' w.heap.size (fun _ => True) v8 x8_3) ∧ Aside0 (IsS47 w0 w' g s0_0 x1001_3) ∧ Aside0 (KeepBut w w' g none) ∧ Aside0 (Below w0.heap.size w0 w'))
             case atStart => exact ⟨(y305), (0), (x1001_52), (by first | rfl | (simp; done) | (simp [*]; done)), H', ⟨Nat.le_refl _⟩, ⟨zz11_4_ HO307.out⟩, ⟨zz11_1_ HI0.out⟩, ⟨zz11_0_ HK.out⟩, ⟨zz11_2_ HB.out HI0.out⟩⟩
             case round =>
              clear H'
              try clear c1
              try clear c2
              try clear p2
              try clear q2
              try clear hx2
              try clear c3
              try clear p3
              try clear q3
              try clear hx3
              try clear c4
              try clear c4b0
              try clear c5
              try clear c5b0
              try clear c6
              try clear p6
              try clear c7
              try clear c11
              try clear c11b0
              try clear c14
              try clear c14b0
              try clear c14b1
              try clear c16
              try clear c16b0
              try clear c17
              try clear c17b0
              try clear c24
              try clear c24b0
              try clear c24b1
              try clear p24
              try clear q24
              try clear hx24
              try clear p25
              try clear q25
              try clear hx25
              try clear c26
              try clear c26b0
              try clear p26
              try clear q26
              try clear hx26
              try clear c27
              try clear c27b0
              try clear p27
              try clear q27
              try clear hx27
              try clear p28
              try clear q28
              try clear hx28
              try clear p29
              try clear q29
              try clear hx29
              try clear c30
              try clear p30
              try clear q30
              try clear hx30
              try clear c34
              try clear c34b0
              try clear c34b1
              try clear c35
              try clear c36
              try clear c36b0
              try clear c37
              try clear c37b0
              try clear c44
              try clear c44b0
              try clear c44b1
              try clear c51
              try clear c51b0
              try clear c52
              try clear c52b0
              try clear c53
              try clear c59
              try clear c59b0
              try clear c59b1
              try clear c61
              try clear c61b0
              try clear c62
              try clear c62b0
              try clear p64
              try clear c67
              try clear c67b0
              try clear c67b1
              try clear c69
              try clear c69b0
              try clear c70
              try clear c70b0
              try clear c75
              try clear c75b0
              try clear c75b1
              try clear c77
              try clear c77b0
              try clear c78
              try clear c78b0
              try clear hx244_0
              try clear hx252_0
              try clear hx261_0
              try clear hx270_0
              try clear hx286_0
              try clear hx292_0
              try clear hx298_0
              try clear hx304_0
              try clear p2
              try clear p24
              try clear p244
              try clear p25
              try clear p252
              try clear p26
              try clear p261
              try clear p27
              try clear p270
              try clear p28
              try clear p286
              try clear p29
              try clear p292
              try clear p298
              try clear p3
              try clear p30
              try clear p304
              try clear p6
              try clear p64
              try clear q2
              try clear q24
              try clear q244
              try clear q25
              try clear q252
              try clear q26
              try clear q261
              try clear q27
              try clear q270
              try clear q28
              try clear q286
              try clear q29
              try clear q292
              try clear q298
              try clear q3
              try clear q30
              try clear q304
              obtain ⟨x8_3, x9_3, x1001_3, rfl, HA, HK3, HO_8, HI0, HK, HB⟩ := hrel
              cases gk with
              | zero => exact absurd HA.out (by simp [spec_l20Cells.l0])
              | succ k3 =>
               have H := HA.out
               clear HA
               simp only [spec_l20Cells.l0] at H
               by_cases c85 : x9_3 < (rd y283 x5_5)
               ·rw [if_pos c85] at H
                have c85b0 : decide (x9_3 < (rd y283 x5_5)) = true := decide_eq_true c85
                clear c85
                replace H := Option.bind_eq_some_iff.mp H
                obtain ⟨⟨t308, t311⟩, A860, H⟩ := H
                try dsimp only at H
                have A86 := Aside0.mk A860
                clear A860
                by_cases c87 : x8_3.length + t308.length < 4398046511104
                ·rw [if_pos c87] at H
                 have LMc87 := Aside0.mk c87
                 clear c87
                 obtain ⟨y312, hy312⟩ : ∃ y_ : List (S35), y_ = (x8_3 ++ t308) := ⟨_, rfl⟩
                 replace H : (spec_l20Cells.l0 k3 a1 (rd y283 x5_5) y312 (wrap64 (x9_3 + 1)) s0_0 t311) = some (r1, r2) := by first | (rw [hy312]; with_reducible exact H) | (have H2_ := (Option.bind_some _ _).symm.trans H; rw [hy312]; with_reducible exact H2_) | (have H2_ := (Option.bind_some _ _).symm.trans H; with_reducible exact H2_) | with_reducible exact H | (rw [hy312]; exact H) | exact H
                 have Ny312 := Aside0.mk hy312
                 clear hy312
                 have H' := Aside0.mk H
                 clear H
                 go_wp2_with (first | ((with_reducible refine gate_callee (f := 35) rfl ?_); refine goesL_ (some 99) rfl rfl Tryz.func35 (by kernel_rfl) rfl #[.pointer (some ⟨g, 0, none⟩), .int .i64 (wrap64 (a1 - 1))] rfl (zz11_3_) ?_; (with_reducible refine (ih k3 (by have := HJ5.out; have := HJ52.out; have := HK3.out; omega) g s0_0 x1001_3 (wrap64 (a1 - 1)) t308 t311 w0 _ ?side1 ?side2 A86.out).mono ?_); (case side1 => exact zz11_1_ HI0.out); (case side2 => exact zz11_2_ HB.out HI0.out); rintro e w88 ⟨v309, rfl, ho0, hi, hb, hk⟩; refine ⟨_, rfl, ?_⟩; have n0_ := Aside0.mk (Kd.R_mono (Kd.R_told (Kd.R_oldK (IsS47.apart (show IsS47 w0 _ g s0_0 x1001_3 from by repeat (first | (with_reducible first | exact HI0.out | apply IsS47.alloc | apply IsS47.drewN | apply IsS47.drew | apply IsS47.set_1) | exact HI0.out)) (zz11_4_ HO_8.out) (by decide)) hk) (Kd.R_base ho0)) (fun _ h_ => h_.1)); have n1_ := Aside0.mk (Kd.R_lower (Kd.R_new' ho0 (Kd.R_lt (zz11_4_ HO_8.out))) (keep_size (w := w) (g := g) (row := none) (zz11_0_ HK.out))); have n2_ := Aside0.mk (KeepBut.trans (zz11_0_ HK.out) hk (.inl rfl)); have n3_ := Aside0.mk (hb); have n4_ := Aside0.mk (hi); clear HO_8; clear HK; clear HB; clear HI0; have HO_8 := n0_; have HO310 := n1_; have HK := n2_; have HB := n3_; have HI0 := n4_; clear n0_ n1_ n2_ n3_ n4_; (try clear hb); (try clear hb2); (try clear hk); (try clear hi); (try clear ho0); obtain ⟨Ao90, co90, eo90⟩ := Kd.R_slice HO310.out; subst eo90) | ((with_reducible refine gate_builtin (b := .append) (xs := #[.tmp 95, .tmp 99]) rfl ?_); at_builtin; refine Kd.R_append_rows k35 w.heap.size rfl (.tmp 95) (.tmp 99) 23 35 (.agg #[(.int .i64 0), (.string ⟨#[]⟩), (.int .i64 0)]) 32 rfl Tryz.underlying23 info35 rfl (by decide) (by omega) u8 x8_3 t308 _ _ _ (fun k_ => some k_ ≠ (.slice Ao90 t308.length co90 : Value).ownBlock) (fun _ => False) rfl rfl ?aO ?aR (fun _ _ h => h) (fun _ h => h.elim) ?aF (Below.refl _ _) ?aS ?aL ?_; (case aR => repeat (first | exact (Kd.R_reads' HO310.out).2.2 | (with_reducible refine Kd.C_alloc ?_ _) | (with_reducible refine Kd.C_drewN ?_ _) | (with_reducible refine Kd.C_drew ?_))); (case aF => exact (fun k_ hk => Kd.fresh' (Kd.R_lt (zz11_4_ HO310.out)) k_ hk)); (case aO => exact (by (with_reducible repeat (first | apply Kd.R_alloc | apply Kd.R_drewN | apply Kd.R_drew)); exact Kd.R_mono HO_8.out (fun _ hk => hk.2))); (case aS => exact (keep_size (w := w) (g := g) (row := none) (zz11_0_ HK.out))); (case aL => have := LMc87.out; omega); intro v313 w89 ho hb hg hat; rw [← Ny312.out] at ho; have n0_ := Aside0.mk (IsS47.grown (zz11_1_ HI0.out) hg (IsS47.own_ne HI0.out HO_8.out (by decide))); have n1_ := Aside0.mk (Kd.R_after (ok := (fun _ => True)) (zz11_4_ HO310.out) hg hat); have n2_ := Aside0.mk (below_weaken (zz11_2_ HB.out HI0.out) HL.out hb); have n3_ := Aside0.mk (KeepBut.trans (zz11_0_ HK.out) (KeepBut.of_grown hg g) (Kd.R_base2 HO_8.out)); have n4_ := Aside0.mk (ho); clear HI0; clear HO310; clear HB; clear HK; clear HO_8; have HI0 := n0_; have HO310 := n1_; have HB := n2_; have HK := n3_; have HO314 := n4_; clear n0_ n1_ n2_ n3_ n4_; clear ho hb hg hat))
                 go_roundg k3
                 case measure => have := HJ5.out; have := HJ52.out; have := HK3.out; omega
                 case rel => exact ⟨(y312), (wrap64 (x9_3 + 1)), (t311), (by first | rfl | (simp; done) | (simp [*]; done)), H', ⟨by have := HJ5.out; have := HJ52.out; have := HK3.out; omega⟩, ⟨by (with_reducible repeat (first | apply Kd.R_alloc | apply Kd.R_drewN | apply Kd.R_drew)); exact Kd.R_mono HO314.out (fun _ hk => trivial)⟩, ⟨zz11_1_ HI0.out⟩, ⟨zz11_0_ HK.out⟩, ⟨zz11_2_ HB.out HI0.out⟩⟩
                ·rw [if_neg c87] at H
                 exact absurd H (by simp)
               ·rw [if_neg c85] at H
                have c85b0 : decide (x9_3 < (rd y283 x5_5)) = false := decide_eq_false c85
                clear c85
                simp only [Option.some.injEq, Prod.mk.injEq] at H
                obtain ⟨rfl, rfl⟩ := H
                go_wp2
                go_ret
                exact ⟨_, by first | rfl | (simp [errW_none, errW_some] <;> rfl) | (simp [*, errW_none, errW_some] <;> rfl), zz11_4_ HO_8.out, zz11_1_ HI0.out, zz11_2_ HB.out HI0.out, zz11_0_ HK.out⟩
          ·rw [if_neg c52] at H
           exact absurd H (by simp)
         ·rw [if_neg c51] at H
          exact absurd H (by simp)
  ·rw [if_neg c5] at H
   exact absurd H (by simp)
 ·rw [if_neg c4] at H
  exact absurd H (by simp)

end Go.Proofs.YtifeiepociopoaaGreatDoor.PEd
