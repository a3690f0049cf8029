-- Written for this session by its program hprint.py over the kit's print: functions, and contracts that the walk of the Go code proves.
import Derived.Test.YtifeiepociopoaaDoorPCellx0
import Derived.Test.YtifeiepociopoaaDoorPCellx1
import Derived.Test.YtifeiepociopoaaDoorPCellx2
namespace Go.Proofs.YtifeiepociopoaaDoor.PCell
open Go.RowKit Go.Proofs.YtifeiepociopoaaDoor.Hand Go.Proofs.YtifeiepociopoaaDoorW.PrintWords Go.Proofs.YtifeiepociopoaaDoorW.PrintLast Go.Proofs.YtifeiepociopoaaDoorW.PrintMore
attribute [local go_sem] max2_int min2_int max_two min_two max_three min_three max_four min_four   -- for this text's walks alone
set_option linter.unusedVariables false
set_option linter.unusedSimpArgs false

/-! ### spec_l20Cells: function 59 -/
theorem zz3_0_ {P1 Q : Prop} (h1 : P1) (f : P1 → Q := by intro zq1_; repeat (first | (with_reducible first | exact zq1_ | apply KeepBut.set_ | apply keep_drewN | apply keep_drew | apply keep_alloc) | exact zq1_)) : Q := f h1
theorem zz3_1_ {P1 Q : Prop} (h1 : P1) (f : P1 → Q := by intro zq1_; repeat (first | (with_reducible first | exact zq1_ | apply IsS71.alloc | apply IsS71.drewN | apply IsS71.drew | apply IsS71.set_1) | exact zq1_)) : Q := f h1
theorem zz3_2_ {P1 P2 Q : Prop} (h1 : P1) (h2 : P2) (f : P1 → P2 → Q := by intro zq1_ zq2_; repeat (first | (with_reducible first | exact zq1_ | apply below_alloc | apply pw_below_drewN | apply below_drew1 | refine below_set ?_ (IsS71.ge zq2_)) | exact zq1_)) : Q := f h1 h2
theorem zz3_3_ {Q : Prop} (f : Q := by (try simp only [List.map_toArray, List.map_cons, List.map_nil]); first | done | rfl | (simp only [List.length_drop, List.length_take]; rfl)) : Q := f
theorem zz3_4_ {P1 Q : Prop} (h1 : P1) (f : P1 → Q := by intro zq1_; (with_reducible repeat (first | apply Kd.R_alloc | apply Kd.R_drewN | apply Kd.R_drew)); exact zq1_) : Q := f h1
theorem zz3_5_ {Q : Prop} (f : Q := by first | (with_reducible assumption) | assumption) : Q := f
mutual
def spec_l20Cells.j0 : Nat → Int → Int → List Int → Int → Option ((List (S39)) × Int)
 | 0, _, _, _, _ => none
 | k + 1, x1, x5, x1000, x1001 => if x5 = 1 then ((some (([(⟨#[48]⟩ : ByteArray), (⟨#[49]⟩ : ByteArray), (⟨#[50]⟩ : ByteArray), (⟨#[49, 50]⟩ : ByteArray), (⟨#[48, 46, 53]⟩ : ByteArray), (⟨#[51, 46, 50, 53]⟩ : ByteArray)] : List ByteArray) : List ByteArray)).bind fun y137 => ((spec_l20Rd_pick.f k x1000 x1001 6).bind fun bt140 => (if 0 ≤ bt140.1 then (if bt140.1 < (y137.length : Int) then (some ((([(⟨1, rdOf ByteArray.empty y137 bt140.1, 0⟩ : S39)] : List (S39))), bt140.2)) else (none)) else (none)))) else (if x5 = 2 then ((some (([(⟨#[]⟩ : ByteArray), (⟨#[97]⟩ : ByteArray), (⟨#[65, 98]⟩ : ByteArray), (⟨#[120, 10, 121]⟩ : ByteArray), (⟨#[34]⟩ : ByteArray), (⟨#[35]⟩ : ByteArray)] : List ByteArray) : List ByteArray)).bind fun y146 => ((spec_l20Rd_pick.f k x1000 x1001 6).bind fun bt149 => (if 0 ≤ bt149.1 then (if bt149.1 < (y146.length : Int) then (some ((([(⟨2, rdOf ByteArray.empty y146 bt149.1, 0⟩ : S39)] : List (S39))), bt149.2)) else (none)) else (none)))) else (if x5 = 3 then ((some (([(⟨#[116, 114, 117, 101]⟩ : ByteArray), (⟨#[102, 97, 108, 115, 101]⟩ : ByteArray)] : List ByteArray) : List ByteArray)).bind fun y155 => ((spec_l20Rd_pick.f k x1000 x1001 2).bind fun bt158 => (if 0 ≤ bt158.1 then (if bt158.1 < (y155.length : Int) then (some ((([(⟨3, rdOf ByteArray.empty y155 bt158.1, 0⟩ : S39)] : List (S39))), bt158.2)) else (none)) else (none)))) else (if x5 = 4 then ((spec_l20Name.f k x1000 x1001 0).bind fun bt164 => (some ((([(⟨4, bt164.1, 0⟩ : S39)] : List (S39))), bt164.2))) else ((spec_l20Rd_pick.f k x1000 x1001 3).bind fun bt169 => ((spec_l20Rd_pick.f k x1000 bt169.2 2).bind fun bt171 => ((some (([0, 0, 0, 0, 0, bt169.1, wrap64 (1 + bt171.1), 1, 2, 3] : List Int) : List Int)).bind fun y173 => (if 0 ≤ x5 then (if x5 < (y173.length : Int) then (if x5 = 6 then ((some (([(⟨#[108, 101, 110, 103, 116, 104]⟩ : ByteArray), (⟨#[117, 112, 112, 101, 114]⟩ : ByteArray), (⟨#[109, 105, 110]⟩ : ByteArray), (⟨#[109, 97, 120]⟩ : ByteArray), (⟨#[102, 105, 114, 115, 116]⟩ : ByteArray), (⟨#[114, 101, 118, 101, 114, 115, 101]⟩ : ByteArray), (⟨#[99, 111, 110, 116, 97, 105, 110, 115]⟩ : ByteArray), (⟨#[106, 111, 105, 110]⟩ : ByteArray), (⟨#[102]⟩ : ByteArray)] : List ByteArray) : List ByteArray)).bind fun y177 => ((spec_l20Rd_pick.f k x1000 bt171.2 9).bind fun bt180 => (if 0 ≤ bt180.1 then (if bt180.1 < (y177.length : Int) then (spec_l20Cells.j1 k x1 x5 (rd y173 x5) (rdOf ByteArray.empty y177 bt180.1) x1000 bt180.2) else (none)) else (none)))) else (if x5 = 7 then ((some (([(⟨#[33]⟩ : ByteArray), (⟨#[45]⟩ : ByteArray)] : List ByteArray) : List ByteArray)).bind fun y183 => ((spec_l20Rd_pick.f k x1000 bt171.2 2).bind fun bt186 => (if 0 ≤ bt186.1 then (if bt186.1 < (y183.length : Int) then (spec_l20Cells.j1 k x1 x5 (rd y173 x5) (rdOf ByteArray.empty y183 bt186.1) x1000 bt186.2) else (none)) else (none)))) else (if x5 = 8 then ((some (([(⟨#[124, 124]⟩ : ByteArray), (⟨#[38, 38]⟩ : ByteArray), (⟨#[61, 61]⟩ : ByteArray), (⟨#[33, 61]⟩ : ByteArray), (⟨#[60]⟩ : ByteArray), (⟨#[60, 61]⟩ : ByteArray), (⟨#[62]⟩ : ByteArray), (⟨#[62, 61]⟩ : ByteArray), (⟨#[43]⟩ : ByteArray), (⟨#[45]⟩ : ByteArray), (⟨#[42]⟩ : ByteArray), (⟨#[47]⟩ : ByteArray), (⟨#[37]⟩ : ByteArray), (⟨#[38, 38]⟩ : ByteArray), (⟨#[43]⟩ : ByteArray)] : List ByteArray) : List ByteArray)).bind fun y189 => ((spec_l20Rd_pick.f k x1000 bt171.2 15).bind fun bt192 => (if 0 ≤ bt192.1 then (if bt192.1 < (y189.length : Int) then (spec_l20Cells.j1 k x1 x5 (rd y173 x5) (rdOf ByteArray.empty y189 bt192.1) x1000 bt192.2) else (none)) else (none)))) else (spec_l20Cells.j1 k x1 x5 (rd y173 x5) (⟨#[]⟩ : ByteArray) x1000 bt171.2)))) else (none)) else (none))))))))
def spec_l20Cells.j1 : Nat → Int → Int → Int → ByteArray → List Int → Int → Option ((List (S39)) × Int)
 | 0, _, _, _, _, _, _ => none
 | k + 1, x1, x5, x6, x7, x1000, x1001 => spec_l20Cells.l0 k x1 x6 (([(⟨x5, x7, x6⟩ : S39)] : List (S39))) 0 x1000 x1001
def spec_l20Cells.l0 : Nat → Int → Int → List (S39) → Int → List Int → Int → Option ((List (S39)) × Int)
 | 0, _, _, _, _, _, _ => none
 | k + 1, x1, x6, x8, x9, x1000, x1001 => if x9 < x6 then ((spec_l20Cells.f k x1000 x1001 (wrap64 (x1 - 1))).bind fun bt198 => (if x8.length + bt198.1.length < 4398046511104 then (spec_l20Cells.l0 k x1 x6 (x8 ++ bt198.1) (wrap64 (x9 + 1)) x1000 bt198.2) else (none))) else (some (x8, x1001))
def spec_l20Cells.f : Nat → List Int → Int → Int → Option ((List (S39)) × Int)
 | 0, _, _, _ => none
 | k + 1, s0_0, s0_1, a1 => (some (([1, 2, 3, 4, 4, 5, 6, 7, 7, 8, 8, 8, 9] : List Int) : List Int)).bind fun y129 => ((spec_l20Rd_pick.f k s0_0 s0_1 13).bind fun bt132 => (if 0 ≤ bt132.1 then (if bt132.1 < (y129.length : Int) then (if a1 ≤ 1 then ((spec_l20Rd_pick.f k s0_0 bt132.2 4).bind fun bt135 => (spec_l20Cells.j0 k a1 (wrap64 (1 + bt135.1)) s0_0 bt135.2)) else (spec_l20Cells.j0 k a1 (rd y129 bt132.1) s0_0 bt132.2)) else (none)) else (none)))
end
theorem spec_l20Cells.mono_l : ∀ k, (∀ y0 y1 y2, LeO (spec_l20Cells.f k y0 y1 y2) (spec_l20Cells.f (k + 1) y0 y1 y2)) ∧ (∀ y0 y1 y2 y3, LeO (spec_l20Cells.j0 k y0 y1 y2 y3) (spec_l20Cells.j0 (k + 1) y0 y1 y2 y3)) ∧ (∀ y0 y1 y2 y3 y4 y5, LeO (spec_l20Cells.j1 k y0 y1 y2 y3 y4 y5) (spec_l20Cells.j1 (k + 1) y0 y1 y2 y3 y4 y5)) ∧ (∀ y0 y1 y2 y3 y4 y5, LeO (spec_l20Cells.l0 k y0 y1 y2 y3 y4 y5) (spec_l20Cells.l0 (k + 1) y0 y1 y2 y3 y4 y5))
 | 0 => ⟨fun _ _ _ r h => by simp [spec_l20Cells.f] at h, fun _ _ _ _ r h => by simp [spec_l20Cells.j0] at h, fun _ _ _ _ _ _ r h => by simp [spec_l20Cells.j1] at h, fun _ _ _ _ _ _ r h => by simp [spec_l20Cells.l0] at h⟩
 | k + 1 => by
  obtain ⟨ih0, ih1, ih2, ih3⟩ := spec_l20Cells.mono_l k
  refine ⟨?_, ?_, ?_, ?_⟩
  ·intro y0 y1 y2
   unfold spec_l20Cells.f
   repeat' first
   | (with_reducible exact ih0 _ _ _)
   | (with_reducible exact ih1 _ _ _ _)
   | (with_reducible exact ih2 _ _ _ _ _ _)
   | (with_reducible exact ih3 _ _ _ _ _ _)
   | (with_reducible exact spec_l20Name.mono _ _ _ _)
   | (with_reducible exact spec_l20Rd_pick.mono _ _ _ _)
   | (with_reducible exact LeO.refl _)
   | (with_reducible exact LeO.none _)
   | (with_reducible refine LeO.ite ?_ ?_)
   | (with_reducible refine LeO.bind ?_ (fun _ => ?_))
   | exact ih0 _ _ _
   | exact ih1 _ _ _ _
   | exact ih2 _ _ _ _ _ _
   | exact ih3 _ _ _ _ _ _
   | exact spec_l20Name.mono _ _ _ _
   | exact spec_l20Rd_pick.mono _ _ _ _
   | exact LeO.none _
   | refine LeO.ite ?_ ?_
   | refine LeO.bind ?_ (fun _ => ?_)
  ·intro y0 y1 y2 y3
   unfold spec_l20Cells.j0
   repeat' first
   | (with_reducible exact ih0 _ _ _)
   | (with_reducible exact ih1 _ _ _ _)
   | (with_reducible exact ih2 _ _ _ _ _ _)
   | (with_reducible exact ih3 _ _ _ _ _ _)
   | (with_reducible exact spec_l20Name.mono _ _ _ _)
   | (with_reducible exact spec_l20Rd_pick.mono _ _ _ _)
   | (with_reducible exact LeO.refl _)
   | (with_reducible exact LeO.none _)
   | (with_reducible refine LeO.ite ?_ ?_)
   | (with_reducible refine LeO.bind ?_ (fun _ => ?_))
   | exact ih0 _ _ _
   | exact ih1 _ _ _ _
   | exact ih2 _ _ _ _ _ _
   | exact ih3 _ _ _ _ _ _
   | exact spec_l20Name.mono _ _ _ _
   | exact spec_l20Rd_pick.mono _ _ _ _
   | exact LeO.none _
   | refine LeO.ite ?_ ?_
   | refine LeO.bind ?_ (fun _ => ?_)
  ·intro y0 y1 y2 y3 y4 y5
   unfold spec_l20Cells.j1
   repeat' first
   | (with_reducible exact ih0 _ _ _)
   | (with_reducible exact ih1 _ _ _ _)
   | (with_reducible exact ih2 _ _ _ _ _ _)
   | (with_reducible exact ih3 _ _ _ _ _ _)
   | (with_reducible exact spec_l20Name.mono _ _ _ _)
   | (with_reducible exact spec_l20Rd_pick.mono _ _ _ _)
   | (with_reducible exact LeO.refl _)
   | (with_reducible exact LeO.none _)
   | (with_reducible refine LeO.ite ?_ ?_)
   | (with_reducible refine LeO.bind ?_ (fun _ => ?_))
   | exact ih0 _ _ _
   | exact ih1 _ _ _ _
   | exact ih2 _ _ _ _ _ _
   | exact ih3 _ _ _ _ _ _
   | exact spec_l20Name.mono _ _ _ _
   | exact spec_l20Rd_pick.mono _ _ _ _
   | exact LeO.none _
   | refine LeO.ite ?_ ?_
   | refine LeO.bind ?_ (fun _ => ?_)
  ·intro y0 y1 y2 y3 y4 y5
   unfold spec_l20Cells.l0
   repeat' first
   | (with_reducible exact ih0 _ _ _)
   | (with_reducible exact ih1 _ _ _ _)
   | (with_reducible exact ih2 _ _ _ _ _ _)
   | (with_reducible exact ih3 _ _ _ _ _ _)
   | (with_reducible exact spec_l20Name.mono _ _ _ _)
   | (with_reducible exact spec_l20Rd_pick.mono _ _ _ _)
   | (with_reducible exact LeO.refl _)
   | (with_reducible exact LeO.none _)
   | (with_reducible refine LeO.ite ?_ ?_)
   | (with_reducible refine LeO.bind ?_ (fun _ => ?_))
   | exact ih0 _ _ _
   | exact ih1 _ _ _ _
   | exact ih2 _ _ _ _ _ _
   | exact ih3 _ _ _ _ _ _
   | exact spec_l20Name.mono _ _ _ _
   | exact spec_l20Rd_pick.mono _ _ _ _
   | exact LeO.none _
   | refine LeO.ite ?_ ?_
   | refine LeO.bind ?_ (fun _ => ?_)
theorem spec_l20Cells.mono : ∀ a0 a1 a2 k, LeO (spec_l20Cells.f k a0 a1 a2) (spec_l20Cells.f (k + 1) a0 a1 a2) := by
 intro a0 a1 a2 k
 obtain ⟨ih0, ih1, ih2, ih3⟩ := spec_l20Cells.mono_l k
 exact ih0 a0 a1 a2
set_option maxHeartbeats 8000000 in
set_option maxRecDepth 100000 in
theorem spec_l20Cells.calls (k : Nat) : ∀ (g : Nat) (s0_0 : List Int) (s0_1 : Int) (a1 : Int) (r1 : List (S39)) (r2 : Int) (w0 w : World) (hI : IsS71 w0 w g s0_0 s0_1) (hB : Below w0.heap.size w0 w) (h : spec_l20Cells.f k s0_0 s0_1 a1 = some (r1, r2)),
  Calls Tryd.prog 59 #[.pointer (some ⟨g, 0, none⟩), .int .i64 a1] w fun e w' => ∃ v0_ : Value, e = .returned (v0_) ∧ Kd.R k39 39 w' w.heap.size (fun _ => True) v0_ r1 ∧ IsS71 w0 w' g s0_0 r2 ∧ Below w0.heap.size w0 w' ∧ KeepBut w w' g none := by
 induction k using Nat.strongRecOn with
 | _ k ih =>
 intro g s0_0 s0_1 a1 r1 r2 w0 w hI hB h
 cases k with
 | zero => exact absurd h (by simp [spec_l20Cells.f])
 | succ k =>
 simp only [spec_l20Cells.f] at h
 have hu39 := Tryd.underlying39
 have HI0 := Aside0.mk hI
 have HK := Aside0.mk (KeepBut.refl w g none)
 have HL := Aside0.mk hB.size
 clear hI
 have HW0 := Aside0.mk hB.size
 have HB := Aside0.mk hB
 clear hB
 have H : ((some (([1, 2, 3, 4, 4, 5, 6, 7, 7, 8, 8, 8, 9] : List Int) : List Int)).bind fun y129 => ((spec_l20Rd_pick.f k s0_0 s0_1 13).bind fun bt132 => (if 0 ≤ bt132.1 then (if bt132.1 < (y129.length : Int) then (if a1 ≤ 1 then ((spec_l20Rd_pick.f k s0_0 bt132.2 4).bind fun bt135 => (spec_l20Cells.j0 k a1 (wrap64 (1 + bt135.1)) s0_0 bt135.2)) else (spec_l20Cells.j0 k a1 (rd y129 bt132.1) s0_0 bt132.2)) else (none)) else (none)))) = some (r1, r2) := h
 clear h
 obtain ⟨y129, hy129⟩ : ∃ y_ : List Int, y_ = (([1, 2, 3, 4, 4, 5, 6, 7, 7, 8, 8, 8, 9] : List Int)) := ⟨_, rfl⟩
 replace H : ((spec_l20Rd_pick.f k s0_0 s0_1 13).bind fun bt132 => (if 0 ≤ bt132.1 then (if bt132.1 < (y129.length : Int) then (if a1 ≤ 1 then ((spec_l20Rd_pick.f k s0_0 bt132.2 4).bind fun bt135 => (spec_l20Cells.j0 k a1 (wrap64 (1 + bt135.1)) s0_0 bt135.2)) else (spec_l20Cells.j0 k a1 (rd y129 bt132.1) s0_0 bt132.2)) else (none)) else (none))) = some (r1, r2) := by first | (rw [hy129]; with_reducible exact H) | (have H2_ := (Option.bind_some _ _).symm.trans H; rw [hy129]; with_reducible exact H2_) | (have H2_ := (Option.bind_some _ _).symm.trans H; with_reducible exact H2_) | with_reducible exact H | (rw [hy129]; exact H) | exact H
 have Ny129 := Aside0.mk hy129
 clear hy129
 replace H := Option.bind_eq_some_iff.mp H
 obtain ⟨⟨t132, t133⟩, A30, H⟩ := H
 try dsimp only at H
 have A3 := Aside0.mk A30
 clear A30
 by_cases c4 : 0 ≤ t132
 ·rw [if_pos c4] at H
  have c4b0 : decide (0 ≤ t132) = true := decide_eq_true c4
  clear c4
  by_cases c5 : t132 < (y129.length : Int)
  ·rw [if_pos c5] at H
   have c5b0 : decide (t132 < (y129.length : Int)) = true := decide_eq_true c5
   clear c5
   have HC6 := Aside0.mk H
   clear H
   go_enter Tryd.func59, Tryd.ntmps59
   go_upto_if 16 with (first | ((with_reducible refine gate_dst (N := 10) rfl ?_); refine Kd.R_lit (Kd.int .i64) _ 3 ?hg (N := 10) ?hd (xs := ([1, 2, 3, 4, 4, 5, 6, 7, 7, 8, 8, 8, 9] : List Int)) (inner := [.int .i64 1, .int .i64 2, .int .i64 3, .int .i64 4, .int .i64 4, .int .i64 5, .int .i64 6, .int .i64 7, .int .i64 7, .int .i64 8, .int .i64 8, .int .i64 8, .int .i64 9]) (ok := fun _ => True) (okp := fun _ => True) ?hr ?hp (fun _ hk => hk) trivial (Below.refl _ _) (Nat.le_refl _) (by simp) ?_; (case hd => rfl); (case hg => rfl); (case hr => first | (go_simp; done) | (go_simp; rfl)); (case hp => exact (Reps.one (show Kd.M (Kd.int .i64) _ _ _ 1 [.int .i64 1] from rfl) (Reps.one (show Kd.M (Kd.int .i64) _ _ _ 2 [.int .i64 2] from rfl) (Reps.one (show Kd.M (Kd.int .i64) _ _ _ 3 [.int .i64 3] from rfl) (Reps.one (show Kd.M (Kd.int .i64) _ _ _ 4 [.int .i64 4] from rfl) (Reps.one (show Kd.M (Kd.int .i64) _ _ _ 4 [.int .i64 4] from rfl) (Reps.one (show Kd.M (Kd.int .i64) _ _ _ 5 [.int .i64 5] from rfl) (Reps.one (show Kd.M (Kd.int .i64) _ _ _ 6 [.int .i64 6] from rfl) (Reps.one (show Kd.M (Kd.int .i64) _ _ _ 7 [.int .i64 7] from rfl) (Reps.one (show Kd.M (Kd.int .i64) _ _ _ 7 [.int .i64 7] from rfl) (Reps.one (show Kd.M (Kd.int .i64) _ _ _ 8 [.int .i64 8] from rfl) (Reps.one (show Kd.M (Kd.int .i64) _ _ _ 8 [.int .i64 8] from rfl) (Reps.one (show Kd.M (Kd.int .i64) _ _ _ 8 [.int .i64 8] from rfl) (Reps.one (show Kd.M (Kd.int .i64) _ _ _ 9 [.int .i64 9] from rfl) (Reps.none _ _))))))))))))))); intro v130 w7 ho8 hb hg_ hnew_; clear hg_ hnew_; (first | rw [← Ny129.out] at ho8 | (simp only [Int.reduceToNat] at ho8; rw [← Ny129.out] at ho8)); have n0_ := Aside0.mk (Kd.R_lower ho8 (keep_size (w := w) (g := g) (row := none) (zz3_0_ HK.out))); have n1_ := Aside0.mk (IsS71.below (zz3_1_ HI0.out) hb); have n2_ := Aside0.mk (KeepBut.trans (zz3_0_ HK.out) (KeepBut.of_below hb g none) (.inl rfl)); have n3_ := Aside0.mk (below_step (zz3_2_ HB.out HI0.out) hb); clear HI0; clear HK; clear HB; have HO131 := n0_; have HI0 := n1_; have HK := n2_; have HB := n3_; clear n0_ n1_ n2_ n3_; clear hb ho8) | ((with_reducible refine gate_callee (f := 45) rfl ?_); refine goesL_ (some 12) rfl rfl Tryd.func45 (by kernel_rfl) rfl #[.pointer (some ⟨g, 0, none⟩), .int .i64 13] rfl (zz3_3_) ?_; (with_reducible refine (spec_l20Rd_pick.calls k g s0_0 s0_1 13 t132 t133 w0 _ ?side1 ?side2 A3.out).mono ?_); (case side1 => exact zz3_1_ HI0.out); (case side2 => exact zz3_2_ HB.out HI0.out); rintro e w9 ⟨rfl, hi, hb, hk⟩; refine ⟨_, rfl, ?_⟩; have n0_ := Aside0.mk (Kd.R_mono (Kd.R_keep (IsS71.apart (show IsS71 w0 _ g s0_0 s0_1 from by repeat (first | (with_reducible first | exact HI0.out | apply IsS71.alloc | apply IsS71.drewN | apply IsS71.drew | apply IsS71.set_1) | exact HI0.out)) (zz3_4_ HO131.out) (by decide)) hk (fun _ h => h.2)) (fun _ h => h.1)); have n1_ := Aside0.mk (KeepBut.trans (zz3_0_ HK.out) hk (.inl rfl)); have n2_ := Aside0.mk (hb); have n3_ := Aside0.mk (hi); clear HO131; clear HK; clear HB; clear HI0; have HO131 := n0_; have HK := n1_; have HB := n2_; have HI0 := n3_; clear n0_ n1_ n2_ n3_; (try clear hb); (try clear hb2); (try clear hk); (try clear hi); obtain ⟨Ao10, co10, eo10⟩ := Kd.R_slice HO131.out; subst eo10; have p134 : 0 ≤ (t132 : Int) := of_decide_eq_true (zz3_5_); have q134 : t132 < (y129.length : Int) := of_decide_eq_true (zz3_5_); obtain ⟨ad134, e134, hx134_0⟩ := Kd.at_int (Kd.R_reads' HO131.out).2.2 t132 p134 q134; cases e134; replace p134 := eq_true p134; replace q134 := eq_true q134))
   (try simp only [Act.put, List.setIfInBounds_toArray, List.set_cons_zero, List.set_cons_succ])
   go_cut [5] (fun v5 wc => ∃ (kq : Nat) (x5_5 : Int) (x1001_5 : Int), v5 = .int .i64 x5_5 ∧ Aside0 (spec_l20Cells.j0 kq a1 x5_5 s0_0 x1001_5 = some (r1, r2)) ∧ Aside0 (kq ≤ k) ∧ Aside0 (IsS71 w0 wc g s0_0 x1001_5) ∧ Aside0 (KeepBut w wc g none) ∧ Aside0 (Below w0.heap.size w0 wc))
   case first =>
    have H := HC6.out
    clear HC6
    by_cases c11 : a1 ≤ 1
    ·rw [if_pos c11] at H
     have c11b0 : decide (a1 ≤ 1) = true := decide_eq_true c11
     clear c11
     (first | rw [c11b0] | (simp only [i64_w, i32_w]; rw [c11b0]) | skip)
     replace H := Option.bind_eq_some_iff.mp H
     obtain ⟨⟨t135, t136⟩, A120, H⟩ := H
     try dsimp only at H
     have A12 := Aside0.mk A120
     clear A120
     have H' := Aside0.mk H
     clear H
     go_wp2_with (first | ((with_reducible refine gate_callee (f := 45) rfl ?_); refine goesL_ (some 18) rfl rfl Tryd.func45 (by kernel_rfl) rfl #[.pointer (some ⟨g, 0, none⟩), .int .i64 4] rfl (zz3_3_) ?_; (with_reducible refine (spec_l20Rd_pick.calls k g s0_0 t133 4 t135 t136 w0 _ ?side1 ?side2 A12.out).mono ?_); (case side1 => exact zz3_1_ HI0.out); (case side2 => exact zz3_2_ HB.out HI0.out); rintro e w13 ⟨rfl, hi, hb, hk⟩; refine ⟨_, rfl, ?_⟩; have n0_ := Aside0.mk (Kd.R_mono (Kd.R_keep (IsS71.apart (show IsS71 w0 _ g s0_0 t133 from by repeat (first | (with_reducible first | exact HI0.out | apply IsS71.alloc | apply IsS71.drewN | apply IsS71.drew | apply IsS71.set_1) | exact HI0.out)) (zz3_4_ HO131.out) (by decide)) hk (fun _ h => h.2)) (fun _ h => h.1)); have n1_ := Aside0.mk (KeepBut.trans (zz3_0_ HK.out) hk (.inl rfl)); have n2_ := Aside0.mk (hb); have n3_ := Aside0.mk (hi); clear HO131; clear HK; clear HB; clear HI0; have HO131 := n0_; have HK := n1_; have HB := n2_; have HI0 := n3_; clear n0_ n1_ n2_ n3_; (try clear hb); (try clear hb2); (try clear hk); (try clear hi)))
     go_meet
     case rel => exact ⟨_, (wrap64 (1 + t135)), (t136), (by first | rfl | (simp; done) | (simp [*]; done)), H', ⟨by first | omega | exact Nat.le_refl _⟩, ⟨zz3_1_ HI0.out⟩, ⟨zz3_0_ HK.out⟩, ⟨zz3_2_ HB.out HI0.out⟩⟩
    ·rw [if_neg c11] at H
     have c11b0 : decide (a1 ≤ 1) = false := decide_eq_false c11
     clear c11
     (first | rw [c11b0] | (simp only [i64_w, i32_w]; rw [c11b0]) | skip)
     have H' := Aside0.mk H
     clear H
     go_wp2
     go_meet
     case rel => exact ⟨_, (rd y129 t132), (t133), (by first | rfl | (simp; done) | (simp [*]; done)), H', ⟨by first | omega | exact Nat.le_refl _⟩, ⟨zz3_1_ HI0.out⟩, ⟨zz3_0_ HK.out⟩, ⟨zz3_2_ HB.out HI0.out⟩⟩
   case rest =>
    clear HC6
    try clear c1
    try clear p1
    try clear q1
    try clear hx1
    try clear p2
    try clear c4
    try clear c4b0
    try clear c5
    try clear c5b0
    try clear p6
    try clear c11
    try clear c11b0
    try clear p13
    try clear q13
    try clear hx13
    try clear hx134_0
    try clear p134
    try clear q134
    obtain ⟨kq, x5_5, x1001_5, rfl, HA, HJ5, HI0, HK, HB⟩ := hcut
    cases kq with
    | zero => exact absurd HA.out (by simp [spec_l20Cells.j0])
    | succ kj5 =>
     have H := HA.out
     clear HA
     simp only [spec_l20Cells.j0] at H
     by_cases c14 : x5_5 = 1
     ·rw [if_pos c14] at H
      have c14b0 : (x5_5 == 1) = true := beq_iff_eq.mpr c14
      have c14b1 : (x5_5 != 1) = false := bne_eq_false_iff_eq.mpr c14
      clear c14
      obtain ⟨y137, hy137⟩ : ∃ y_ : List ByteArray, y_ = (([(⟨#[48]⟩ : ByteArray), (⟨#[49]⟩ : ByteArray), (⟨#[50]⟩ : ByteArray), (⟨#[49, 50]⟩ : ByteArray), (⟨#[48, 46, 53]⟩ : ByteArray), (⟨#[51, 46, 50, 53]⟩ : ByteArray)] : List ByteArray)) := ⟨_, rfl⟩
      replace H : ((spec_l20Rd_pick.f kj5 s0_0 x1001_5 6).bind fun bt140 => (if 0 ≤ bt140.1 then (if bt140.1 < (y137.length : Int) then (some ((([(⟨1, rdOf ByteArray.empty y137 bt140.1, 0⟩ : S39)] : List (S39))), bt140.2)) else (none)) else (none))) = some (r1, r2) := by first | (rw [hy137]; with_reducible exact H) | (have H2_ := (Option.bind_some _ _).symm.trans H; rw [hy137]; with_reducible exact H2_) | (have H2_ := (Option.bind_some _ _).symm.trans H; with_reducible exact H2_) | with_reducible exact H | (rw [hy137]; exact H) | exact H
      have Ny137 := Aside0.mk hy137
      clear hy137
      replace H := Option.bind_eq_some_iff.mp H
      obtain ⟨⟨t140, t141⟩, A150, H⟩ := H
      try dsimp only at H
      have A15 := Aside0.mk A150
      clear A150
      by_cases c16 : 0 ≤ t140
      ·rw [if_pos c16] at H
       have c16b0 : decide (0 ≤ t140) = true := decide_eq_true c16
       clear c16
       by_cases c17 : t140 < (y137.length : Int)
       ·rw [if_pos c17] at H
        have c17b0 : decide (t140 < (y137.length : Int)) = true := decide_eq_true c17
        clear c17
        obtain ⟨y143, hy143⟩ : ∃ y_ : List (S39), y_ = (([(⟨1, rdOf ByteArray.empty y137 t140, 0⟩ : S39)] : List (S39))) := ⟨_, rfl⟩
        replace H : (some (y143, t141)) = some (r1, r2) := by first | (rw [hy143]; with_reducible exact H) | (have H2_ := (Option.bind_some _ _).symm.trans H; rw [hy143]; with_reducible exact H2_) | (have H2_ := (Option.bind_some _ _).symm.trans H; with_reducible exact H2_) | with_reducible exact H | (rw [hy143]; exact H) | exact H
        have Ny143 := Aside0.mk hy143
        clear hy143
        simp only [Option.some.injEq, Prod.mk.injEq] at H
        obtain ⟨rfl, rfl⟩ := H
        go_wp2_with (first | ((with_reducible refine gate_dst (N := 23) rfl ?_); refine Kd.R_lit Kd.string _ 9 ?hg (N := 23) ?hd (xs := ([(⟨#[48]⟩ : ByteArray), (⟨#[49]⟩ : ByteArray), (⟨#[50]⟩ : ByteArray), (⟨#[49, 50]⟩ : ByteArray), (⟨#[48, 46, 53]⟩ : ByteArray), (⟨#[51, 46, 50, 53]⟩ : ByteArray)] : List ByteArray)) (inner := [.string (⟨#[48]⟩ : ByteArray), .string (⟨#[49]⟩ : ByteArray), .string (⟨#[50]⟩ : ByteArray), .string (⟨#[49, 50]⟩ : ByteArray), .string (⟨#[48, 46, 53]⟩ : ByteArray), .string (⟨#[51, 46, 50, 53]⟩ : ByteArray)]) (ok := fun _ => True) (okp := fun _ => True) ?hr ?hp (fun _ hk => hk) trivial (Below.refl _ _) (Nat.le_refl _) (by simp) ?_; (case hd => rfl); (case hg => rfl); (case hr => first | (go_simp; done) | (go_simp; rfl)); (case hp => exact (Reps.one (show Kd.M Kd.string _ _ _ (⟨#[48]⟩ : ByteArray) [.string (⟨#[48]⟩ : ByteArray)] from rfl) (Reps.one (show Kd.M Kd.string _ _ _ (⟨#[49]⟩ : ByteArray) [.string (⟨#[49]⟩ : ByteArray)] from rfl) (Reps.one (show Kd.M Kd.string _ _ _ (⟨#[50]⟩ : ByteArray) [.string (⟨#[50]⟩ : ByteArray)] from rfl) (Reps.one (show Kd.M Kd.string _ _ _ (⟨#[49, 50]⟩ : ByteArray) [.string (⟨#[49, 50]⟩ : ByteArray)] from rfl) (Reps.one (show Kd.M Kd.string _ _ _ (⟨#[48, 46, 53]⟩ : ByteArray) [.string (⟨#[48, 46, 53]⟩ : ByteArray)] from rfl) (Reps.one (show Kd.M Kd.string _ _ _ (⟨#[51, 46, 50, 53]⟩ : ByteArray) [.string (⟨#[51, 46, 50, 53]⟩ : ByteArray)] from rfl) (Reps.none _ _)))))))); intro v138 w18 ho19 hb hg_ hnew_; clear hg_ hnew_; (first | rw [← Ny137.out] at ho19 | (simp only [Int.reduceToNat] at ho19; rw [← Ny137.out] at ho19)); have n0_ := Aside0.mk (Kd.R_lower ho19 (keep_size (w := w) (g := g) (row := none) (zz3_0_ HK.out))); have n1_ := Aside0.mk (IsS71.below (zz3_1_ HI0.out) hb); have n2_ := Aside0.mk (KeepBut.trans (zz3_0_ HK.out) (KeepBut.of_below hb g none) (.inl rfl)); have n3_ := Aside0.mk (below_step (zz3_2_ HB.out HI0.out) hb); clear HI0; clear HK; clear HB; have HO139 := n0_; have HI0 := n1_; have HK := n2_; have HB := n3_; clear n0_ n1_ n2_ n3_; clear hb ho19) | ((with_reducible refine gate_callee (f := 45) rfl ?_); refine goesL_ (some 25) rfl rfl Tryd.func45 (by kernel_rfl) rfl #[.pointer (some ⟨g, 0, none⟩), .int .i64 6] rfl (zz3_3_) ?_; (with_reducible refine (spec_l20Rd_pick.calls kj5 g s0_0 x1001_5 6 t140 t141 w0 _ ?side1 ?side2 A15.out).mono ?_); (case side1 => exact zz3_1_ HI0.out); (case side2 => exact zz3_2_ HB.out HI0.out); rintro e w20 ⟨rfl, hi, hb, hk⟩; refine ⟨_, rfl, ?_⟩; have n0_ := Aside0.mk (Kd.R_mono (Kd.R_keep (IsS71.apart (show IsS71 w0 _ g s0_0 x1001_5 from by repeat (first | (with_reducible first | exact HI0.out | apply IsS71.alloc | apply IsS71.drewN | apply IsS71.drew | apply IsS71.set_1) | exact HI0.out)) (zz3_4_ HO139.out) (by decide)) hk (fun _ h => h.2)) (fun _ h => h.1)); have n1_ := Aside0.mk (KeepBut.trans (zz3_0_ HK.out) hk (.inl rfl)); have n2_ := Aside0.mk (hb); have n3_ := Aside0.mk (hi); clear HO139; clear HK; clear HB; clear HI0; have HO139 := n0_; have HK := n1_; have HB := n2_; have HI0 := n3_; clear n0_ n1_ n2_ n3_; (try clear hb); (try clear hb2); (try clear hk); (try clear hi); obtain ⟨Ao21, co21, eo21⟩ := Kd.R_slice HO139.out; subst eo21; have p142 : 0 ≤ (t140 : Int) := of_decide_eq_true (zz3_5_); have q142 : t140 < (y137.length : Int) := of_decide_eq_true (zz3_5_); obtain ⟨ad142, e142, hx142_0⟩ := Kd.at_string (Kd.R_reads' HO139.out).2.2 t140 p142 q142; cases e142; replace p142 := eq_true p142; replace q142 := eq_true q142) | ((with_reducible refine gate_dst (N := 29) rfl ?_); refine Kd.R_lit k39 _ 39 ?hg (N := 29) ?hd (xs := ([(⟨1, rdOf ByteArray.empty y137 t140, 0⟩ : S39)] : List (S39))) (inner := [.int .i64 1, .string (rdOf ByteArray.empty y137 t140), .int .i64 0]) (ok := fun _ => True) (okp := fun _ => True) ?hr ?hp (fun _ hk => hk) trivial (Below.refl _ _) (Nat.le_refl _) (by simp) ?_; (case hd => rfl); (case hg => rfl); (case hr => first | (go_simp; done) | (go_simp; rfl)); (case hp => exact (Reps.c3 (show Kd.M k39 _ _ _ (⟨1, rdOf ByteArray.empty y137 t140, 0⟩ : S39) [.int .i64 1, .string (rdOf ByteArray.empty y137 t140), .int .i64 0] from (k39_mkM _ _ _ (⟨1, rdOf ByteArray.empty y137 t140, 0⟩ : S39) )) (Reps.none _ _))); intro v144 w22 ho23 hb hg_ hnew_; clear hg_ hnew_; (first | rw [← Ny143.out] at ho23 | (simp only [Int.reduceToNat] at ho23; rw [← Ny143.out] at ho23)); have n0_ := Aside0.mk (Kd.R_below (zz3_4_ HO139.out) hb); have n1_ := Aside0.mk (Kd.R_lower ho23 (keep_size (w := w) (g := g) (row := none) (zz3_0_ HK.out))); have n2_ := Aside0.mk (IsS71.below (zz3_1_ HI0.out) hb); have n3_ := Aside0.mk (KeepBut.trans (zz3_0_ HK.out) (KeepBut.of_below hb g none) (.inl rfl)); have n4_ := Aside0.mk (below_step (zz3_2_ HB.out HI0.out) hb); clear HO139; clear HI0; clear HK; clear HB; have HO139 := n0_; have HO145 := n1_; have HI0 := n2_; have HK := n3_; have HB := n4_; clear n0_ n1_ n2_ n3_ n4_; clear hb ho23))
        go_ret
        exact ⟨_, by first | rfl | (simp [errW_none, errW_some] <;> rfl) | (simp [*, errW_none, errW_some] <;> rfl), zz3_4_ HO145.out, zz3_1_ HI0.out, zz3_2_ HB.out HI0.out, zz3_0_ HK.out⟩
       ·rw [if_neg c17] at H
        exact absurd H (by simp)
      ·rw [if_neg c16] at H
       exact absurd H (by simp)
     ·rw [if_neg c14] at H
      have c14b0 : (x5_5 == 1) = false := beq_eq_false_iff_ne.mpr c14
      have c14b1 : (x5_5 != 1) = true := bne_iff_ne.mpr c14
      by_cases c24 : x5_5 = 2
      ·rw [if_pos c24] at H
       have c24b0 : (x5_5 == 2) = true := beq_iff_eq.mpr c24
       have c24b1 : (x5_5 != 2) = false := bne_eq_false_iff_eq.mpr c24
       clear c24
       obtain ⟨y146, hy146⟩ : ∃ y_ : List ByteArray, y_ = (([(⟨#[]⟩ : ByteArray), (⟨#[97]⟩ : ByteArray), (⟨#[65, 98]⟩ : ByteArray), (⟨#[120, 10, 121]⟩ : ByteArray), (⟨#[34]⟩ : ByteArray), (⟨#[35]⟩ : ByteArray)] : List ByteArray)) := ⟨_, rfl⟩
       replace H : ((spec_l20Rd_pick.f kj5 s0_0 x1001_5 6).bind fun bt149 => (if 0 ≤ bt149.1 then (if bt149.1 < (y146.length : Int) then (some ((([(⟨2, rdOf ByteArray.empty y146 bt149.1, 0⟩ : S39)] : List (S39))), bt149.2)) else (none)) else (none))) = some (r1, r2) := by first | (rw [hy146]; with_reducible exact H) | (have H2_ := (Option.bind_some _ _).symm.trans H; rw [hy146]; with_reducible exact H2_) | (have H2_ := (Option.bind_some _ _).symm.trans H; with_reducible exact H2_) | with_reducible exact H | (rw [hy146]; exact H) | exact H
       have Ny146 := Aside0.mk hy146
       clear hy146
       replace H := Option.bind_eq_some_iff.mp H
       obtain ⟨⟨t149, t150⟩, A250, H⟩ := H
       try dsimp only at H
       have A25 := Aside0.mk A250
       clear A250
       by_cases c26 : 0 ≤ t149
       ·rw [if_pos c26] at H
        have c26b0 : decide (0 ≤ t149) = true := decide_eq_true c26
        clear c26
        by_cases c27 : t149 < (y146.length : Int)
        ·rw [if_pos c27] at H
         have c27b0 : decide (t149 < (y146.length : Int)) = true := decide_eq_true c27
         clear c27
         obtain ⟨y152, hy152⟩ : ∃ y_ : List (S39), y_ = (([(⟨2, rdOf ByteArray.empty y146 t149, 0⟩ : S39)] : List (S39))) := ⟨_, rfl⟩
         replace H : (some (y152, t150)) = some (r1, r2) := by first | (rw [hy152]; with_reducible exact H) | (have H2_ := (Option.bind_some _ _).symm.trans H; rw [hy152]; with_reducible exact H2_) | (have H2_ := (Option.bind_some _ _).symm.trans H; with_reducible exact H2_) | with_reducible exact H | (rw [hy152]; exact H) | exact H
         have Ny152 := Aside0.mk hy152
         clear hy152
         simp only [Option.some.injEq, Prod.mk.injEq] at H
         obtain ⟨rfl, rfl⟩ := H
         go_wp2_with (first | ((with_reducible refine gate_dst (N := 32) rfl ?_); refine Kd.R_lit Kd.string _ 9 ?hg (N := 32) ?hd (xs := ([(⟨#[]⟩ : ByteArray), (⟨#[97]⟩ : ByteArray), (⟨#[65, 98]⟩ : ByteArray), (⟨#[120, 10, 121]⟩ : ByteArray), (⟨#[34]⟩ : ByteArray), (⟨#[35]⟩ : ByteArray)] : List ByteArray)) (inner := [.string (⟨#[]⟩ : ByteArray), .string (⟨#[97]⟩ : ByteArray), .string (⟨#[65, 98]⟩ : ByteArray), .string (⟨#[120, 10, 121]⟩ : ByteArray), .string (⟨#[34]⟩ : ByteArray), .string (⟨#[35]⟩ : ByteArray)]) (ok := fun _ => True) (okp := fun _ => True) ?hr ?hp (fun _ hk => hk) trivial (Below.refl _ _) (Nat.le_refl _) (by simp) ?_; (case hd => rfl); (case hg => rfl); (case hr => first | (go_simp; done) | (go_simp; rfl)); (case hp => exact (Reps.one (show Kd.M Kd.string _ _ _ (⟨#[]⟩ : ByteArray) [.string (⟨#[]⟩ : ByteArray)] from rfl) (Reps.one (show Kd.M Kd.string _ _ _ (⟨#[97]⟩ : ByteArray) [.string (⟨#[97]⟩ : ByteArray)] from rfl) (Reps.one (show Kd.M Kd.string _ _ _ (⟨#[65, 98]⟩ : ByteArray) [.string (⟨#[65, 98]⟩ : ByteArray)] from rfl) (Reps.one (show Kd.M Kd.string _ _ _ (⟨#[120, 10, 121]⟩ : ByteArray) [.string (⟨#[120, 10, 121]⟩ : ByteArray)] from rfl) (Reps.one (show Kd.M Kd.string _ _ _ (⟨#[34]⟩ : ByteArray) [.string (⟨#[34]⟩ : ByteArray)] from rfl) (Reps.one (show Kd.M Kd.string _ _ _ (⟨#[35]⟩ : ByteArray) [.string (⟨#[35]⟩ : ByteArray)] from rfl) (Reps.none _ _)))))))); intro v147 w28 ho29 hb hg_ hnew_; clear hg_ hnew_; (first | rw [← Ny146.out] at ho29 | (simp only [Int.reduceToNat] at ho29; rw [← Ny146.out] at ho29)); have n0_ := Aside0.mk (Kd.R_lower ho29 (keep_size (w := w) (g := g) (row := none) (zz3_0_ HK.out))); have n1_ := Aside0.mk (IsS71.below (zz3_1_ HI0.out) hb); have n2_ := Aside0.mk (KeepBut.trans (zz3_0_ HK.out) (KeepBut.of_below hb g none) (.inl rfl)); have n3_ := Aside0.mk (below_step (zz3_2_ HB.out HI0.out) hb); clear HI0; clear HK; clear HB; have HO148 := n0_; have HI0 := n1_; have HK := n2_; have HB := n3_; clear n0_ n1_ n2_ n3_; clear hb ho29) | ((with_reducible refine gate_callee (f := 45) rfl ?_); refine goesL_ (some 34) rfl rfl Tryd.func45 (by kernel_rfl) rfl #[.pointer (some ⟨g, 0, none⟩), .int .i64 6] rfl (zz3_3_) ?_; (with_reducible refine (spec_l20Rd_pick.calls kj5 g s0_0 x1001_5 6 t149 t150 w0 _ ?side1 ?side2 A25.out).mono ?_); (case side1 => exact zz3_1_ HI0.out); (case side2 => exact zz3_2_ HB.out HI0.out); rintro e w30 ⟨rfl, hi, hb, hk⟩; refine ⟨_, rfl, ?_⟩; have n0_ := Aside0.mk (Kd.R_mono (Kd.R_keep (IsS71.apart (show IsS71 w0 _ g s0_0 x1001_5 from by repeat (first | (with_reducible first | exact HI0.out | apply IsS71.alloc | apply IsS71.drewN | apply IsS71.drew | apply IsS71.set_1) | exact HI0.out)) (zz3_4_ HO148.out) (by decide)) hk (fun _ h => h.2)) (fun _ h => h.1)); have n1_ := Aside0.mk (KeepBut.trans (zz3_0_ HK.out) hk (.inl rfl)); have n2_ := Aside0.mk (hb); have n3_ := Aside0.mk (hi); clear HO148; clear HK; clear HB; clear HI0; have HO148 := n0_; have HK := n1_; have HB := n2_; have HI0 := n3_; clear n0_ n1_ n2_ n3_; (try clear hb); (try clear hb2); (try clear hk); (try clear hi); obtain ⟨Ao31, co31, eo31⟩ := Kd.R_slice HO148.out; subst eo31; have p151 : 0 ≤ (t149 : Int) := of_decide_eq_true (zz3_5_); have q151 : t149 < (y146.length : Int) := of_decide_eq_true (zz3_5_); obtain ⟨ad151, e151, hx151_0⟩ := Kd.at_string (Kd.R_reads' HO148.out).2.2 t149 p151 q151; cases e151; replace p151 := eq_true p151; replace q151 := eq_true q151) | ((with_reducible refine gate_dst (N := 38) rfl ?_); refine Kd.R_lit k39 _ 39 ?hg (N := 38) ?hd (xs := ([(⟨2, rdOf ByteArray.empty y146 t149, 0⟩ : S39)] : List (S39))) (inner := [.int .i64 2, .string (rdOf ByteArray.empty y146 t149), .int .i64 0]) (ok := fun _ => True) (okp := fun _ => True) ?hr ?hp (fun _ hk => hk) trivial (Below.refl _ _) (Nat.le_refl _) (by simp) ?_; (case hd => rfl); (case hg => rfl); (case hr => first | (go_simp; done) | (go_simp; rfl)); (case hp => exact (Reps.c3 (show Kd.M k39 _ _ _ (⟨2, rdOf ByteArray.empty y146 t149, 0⟩ : S39) [.int .i64 2, .string (rdOf ByteArray.empty y146 t149), .int .i64 0] from (k39_mkM _ _ _ (⟨2, rdOf ByteArray.empty y146 t149, 0⟩ : S39) )) (Reps.none _ _))); intro v153 w32 ho33 hb hg_ hnew_; clear hg_ hnew_; (first | rw [← Ny152.out] at ho33 | (simp only [Int.reduceToNat] at ho33; rw [← Ny152.out] at ho33)); have n0_ := Aside0.mk (Kd.R_below (zz3_4_ HO148.out) hb); have n1_ := Aside0.mk (Kd.R_lower ho33 (keep_size (w := w) (g := g) (row := none) (zz3_0_ HK.out))); have n2_ := Aside0.mk (IsS71.below (zz3_1_ HI0.out) hb); have n3_ := Aside0.mk (KeepBut.trans (zz3_0_ HK.out) (KeepBut.of_below hb g none) (.inl rfl)); have n4_ := Aside0.mk (below_step (zz3_2_ HB.out HI0.out) hb); clear HO148; clear HI0; clear HK; clear HB; have HO148 := n0_; have HO154 := n1_; have HI0 := n2_; have HK := n3_; have HB := n4_; clear n0_ n1_ n2_ n3_ n4_; clear hb ho33))
         go_ret
         exact ⟨_, by first | rfl | (simp [errW_none, errW_some] <;> rfl) | (simp [*, errW_none, errW_some] <;> rfl), zz3_4_ HO154.out, zz3_1_ HI0.out, zz3_2_ HB.out HI0.out, zz3_0_ HK.out⟩
        ·rw [if_neg c27] at H
         exact absurd H (by simp)
       ·rw [if_neg c26] at H
        exact absurd H (by simp)
      ·rw [if_neg c24] at H
       have c24b0 : (x5_5 == 2) = false := beq_eq_false_iff_ne.mpr c24
       have c24b1 : (x5_5 != 2) = true := bne_iff_ne.mpr c24
       by_cases c34 : x5_5 = 3
       ·rw [if_pos c34] at H
        have c34b0 : (x5_5 == 3) = true := beq_iff_eq.mpr c34
        have c34b1 : (x5_5 != 3) = false := bne_eq_false_iff_eq.mpr c34
        clear c34
        obtain ⟨y155, hy155⟩ : ∃ y_ : List ByteArray, y_ = (([(⟨#[116, 114, 117, 101]⟩ : ByteArray), (⟨#[102, 97, 108, 115, 101]⟩ : ByteArray)] : List ByteArray)) := ⟨_, rfl⟩
        replace H : ((spec_l20Rd_pick.f kj5 s0_0 x1001_5 2).bind fun bt158 => (if 0 ≤ bt158.1 then (if bt158.1 < (y155.length : Int) then (some ((([(⟨3, rdOf ByteArray.empty y155 bt158.1, 0⟩ : S39)] : List (S39))), bt158.2)) else (none)) else (none))) = some (r1, r2) := by first | (rw [hy155]; with_reducible exact H) | (have H2_ := (Option.bind_some _ _).symm.trans H; rw [hy155]; with_reducible exact H2_) | (have H2_ := (Option.bind_some _ _).symm.trans H; with_reducible exact H2_) | with_reducible exact H | (rw [hy155]; exact H) | exact H
        have Ny155 := Aside0.mk hy155
        clear hy155
        replace H := Option.bind_eq_some_iff.mp H
        obtain ⟨⟨t158, t159⟩, A350, H⟩ := H
        try dsimp only at H
        have A35 := Aside0.mk A350
        clear A350
        by_cases c36 : 0 ≤ t158
        ·rw [if_pos c36] at H
         have c36b0 : decide (0 ≤ t158) = true := decide_eq_true c36
         clear c36
         by_cases c37 : t158 < (y155.length : Int)
         ·rw [if_pos c37] at H
          have c37b0 : decide (t158 < (y155.length : Int)) = true := decide_eq_true c37
          clear c37
          obtain ⟨y161, hy161⟩ : ∃ y_ : List (S39), y_ = (([(⟨3, rdOf ByteArray.empty y155 t158, 0⟩ : S39)] : List (S39))) := ⟨_, rfl⟩
          replace H : (some (y161, t159)) = some (r1, r2) := by first | (rw [hy161]; with_reducible exact H) | (have H2_ := (Option.bind_some _ _).symm.trans H; rw [hy161]; with_reducible exact H2_) | (have H2_ := (Option.bind_some _ _).symm.trans H; with_reducible exact H2_) | with_reducible exact H | (rw [hy161]; exact H) | exact H
          have Ny161 := Aside0.mk hy161
          clear hy161
          simp only [Option.some.injEq, Prod.mk.injEq] at H
          obtain ⟨rfl, rfl⟩ := H
          go_wp2_with (first | ((with_reducible refine gate_dst (N := 41) rfl ?_); refine Kd.R_lit Kd.string _ 9 ?hg (N := 41) ?hd (xs := ([(⟨#[116, 114, 117, 101]⟩ : ByteArray), (⟨#[102, 97, 108, 115, 101]⟩ : ByteArray)] : List ByteArray)) (inner := [.string (⟨#[116, 114, 117, 101]⟩ : ByteArray), .string (⟨#[102, 97, 108, 115, 101]⟩ : ByteArray)]) (ok := fun _ => True) (okp := fun _ => True) ?hr ?hp (fun _ hk => hk) trivial (Below.refl _ _) (Nat.le_refl _) (by simp) ?_; (case hd => rfl); (case hg => rfl); (case hr => first | (go_simp; done) | (go_simp; rfl)); (case hp => exact (Reps.one (show Kd.M Kd.string _ _ _ (⟨#[116, 114, 117, 101]⟩ : ByteArray) [.string (⟨#[116, 114, 117, 101]⟩ : ByteArray)] from rfl) (Reps.one (show Kd.M Kd.string _ _ _ (⟨#[102, 97, 108, 115, 101]⟩ : ByteArray) [.string (⟨#[102, 97, 108, 115, 101]⟩ : ByteArray)] from rfl) (Reps.none _ _)))); intro v156 w38 ho39 hb hg_ hnew_; clear hg_ hnew_; (first | rw [← Ny155.out] at ho39 | (simp only [Int.reduceToNat] at ho39; rw [← Ny155.out] at ho39)); have n0_ := Aside0.mk (Kd.R_lower ho39 (keep_size (w := w) (g := g) (row := none) (zz3_0_ HK.out))); have n1_ := Aside0.mk (IsS71.below (zz3_1_ HI0.out) hb); have n2_ := Aside0.mk (KeepBut.trans (zz3_0_ HK.out) (KeepBut.of_below hb g none) (.inl rfl)); have n3_ := Aside0.mk (below_step (zz3_2_ HB.out HI0.out) hb); clear HI0; clear HK; clear HB; have HO157 := n0_; have HI0 := n1_; have HK := n2_; have HB := n3_; clear n0_ n1_ n2_ n3_; clear hb ho39) | ((with_reducible refine gate_callee (f := 45) rfl ?_); refine goesL_ (some 43) rfl rfl Tryd.func45 (by kernel_rfl) rfl #[.pointer (some ⟨g, 0, none⟩), .int .i64 2] rfl (zz3_3_) ?_; (with_reducible refine (spec_l20Rd_pick.calls kj5 g s0_0 x1001_5 2 t158 t159 w0 _ ?side1 ?side2 A35.out).mono ?_); (case side1 => exact zz3_1_ HI0.out); (case side2 => exact zz3_2_ HB.out HI0.out); rintro e w40 ⟨rfl, hi, hb, hk⟩; refine ⟨_, rfl, ?_⟩; have n0_ := Aside0.mk (Kd.R_mono (Kd.R_keep (IsS71.apart (show IsS71 w0 _ g s0_0 x1001_5 from by repeat (first | (with_reducible first | exact HI0.out | apply IsS71.alloc | apply IsS71.drewN | apply IsS71.drew | apply IsS71.set_1) | exact HI0.out)) (zz3_4_ HO157.out) (by decide)) hk (fun _ h => h.2)) (fun _ h => h.1)); have n1_ := Aside0.mk (KeepBut.trans (zz3_0_ HK.out) hk (.inl rfl)); have n2_ := Aside0.mk (hb); have n3_ := Aside0.mk (hi); clear HO157; clear HK; clear HB; clear HI0; have HO157 := n0_; have HK := n1_; have HB := n2_; have HI0 := n3_; clear n0_ n1_ n2_ n3_; (try clear hb); (try clear hb2); (try clear hk); (try clear hi); obtain ⟨Ao41, co41, eo41⟩ := Kd.R_slice HO157.out; subst eo41; have p160 : 0 ≤ (t158 : Int) := of_decide_eq_true (zz3_5_); have q160 : t158 < (y155.length : Int) := of_decide_eq_true (zz3_5_); obtain ⟨ad160, e160, hx160_0⟩ := Kd.at_string (Kd.R_reads' HO157.out).2.2 t158 p160 q160; cases e160; replace p160 := eq_true p160; replace q160 := eq_true q160) | ((with_reducible refine gate_dst (N := 47) rfl ?_); refine Kd.R_lit k39 _ 39 ?hg (N := 47) ?hd (xs := ([(⟨3, rdOf ByteArray.empty y155 t158, 0⟩ : S39)] : List (S39))) (inner := [.int .i64 3, .string (rdOf ByteArray.empty y155 t158), .int .i64 0]) (ok := fun _ => True) (okp := fun _ => True) ?hr ?hp (fun _ hk => hk) trivial (Below.refl _ _) (Nat.le_refl _) (by simp) ?_; (case hd => rfl); (case hg => rfl); (case hr => first | (go_simp; done) | (go_simp; rfl)); (case hp => exact (Reps.c3 (show Kd.M k39 _ _ _ (⟨3, rdOf ByteArray.empty y155 t158, 0⟩ : S39) [.int .i64 3, .string (rdOf ByteArray.empty y155 t158), .int .i64 0] from (k39_mkM _ _ _ (⟨3, rdOf ByteArray.empty y155 t158, 0⟩ : S39) )) (Reps.none _ _))); intro v162 w42 ho43 hb hg_ hnew_; clear hg_ hnew_; (first | rw [← Ny161.out] at ho43 | (simp only [Int.reduceToNat] at ho43; rw [← Ny161.out] at ho43)); have n0_ := Aside0.mk (Kd.R_below (zz3_4_ HO157.out) hb); have n1_ := Aside0.mk (Kd.R_lower ho43 (keep_size (w := w) (g := g) (row := none) (zz3_0_ HK.out))); have n2_ := Aside0.mk (IsS71.below (zz3_1_ HI0.out) hb); have n3_ := Aside0.mk (KeepBut.trans (zz3_0_ HK.out) (KeepBut.of_below hb g none) (.inl rfl)); have n4_ := Aside0.mk (below_step (zz3_2_ HB.out HI0.out) hb); clear HO157; clear HI0; clear HK; clear HB; have HO157 := n0_; have HO163 := n1_; have HI0 := n2_; have HK := n3_; have HB := n4_; clear n0_ n1_ n2_ n3_ n4_; clear hb ho43))
          go_ret
          exact ⟨_, by first | rfl | (simp [errW_none, errW_some] <;> rfl) | (simp [*, errW_none, errW_some] <;> rfl), zz3_4_ HO163.out, zz3_1_ HI0.out, zz3_2_ HB.out HI0.out, zz3_0_ HK.out⟩
         ·rw [if_neg c37] at H
          exact absurd H (by simp)
        ·rw [if_neg c36] at H
         exact absurd H (by simp)
       ·rw [if_neg c34] at H
        have c34b0 : (x5_5 == 3) = false := beq_eq_false_iff_ne.mpr c34
        have c34b1 : (x5_5 != 3) = true := bne_iff_ne.mpr c34
        by_cases c44 : x5_5 = 4
        ·rw [if_pos c44] at H
         have c44b0 : (x5_5 == 4) = true := beq_iff_eq.mpr c44
         have c44b1 : (x5_5 != 4) = false := bne_eq_false_iff_eq.mpr c44
         clear c44
         replace H := Option.bind_eq_some_iff.mp H
         obtain ⟨⟨t164, t165⟩, A450, H⟩ := H
         try dsimp only at H
         have A45 := Aside0.mk A450
         clear A450
         obtain ⟨y166, hy166⟩ : ∃ y_ : List (S39), y_ = (([(⟨4, t164, 0⟩ : S39)] : List (S39))) := ⟨_, rfl⟩
         replace H : (some (y166, t165)) = some (r1, r2) := by first | (rw [hy166]; with_reducible exact H) | (have H2_ := (Option.bind_some _ _).symm.trans H; rw [hy166]; with_reducible exact H2_) | (have H2_ := (Option.bind_some _ _).symm.trans H; with_reducible exact H2_) | with_reducible exact H | (rw [hy166]; exact H) | exact H
         have Ny166 := Aside0.mk hy166
         clear hy166
         simp only [Option.some.injEq, Prod.mk.injEq] at H
         obtain ⟨rfl, rfl⟩ := H
         go_wp2_with (first | ((with_reducible refine gate_callee (f := 73) rfl ?_); refine goesL_ (some 51) rfl rfl Tryd.func73 (by kernel_rfl) rfl #[.pointer (some ⟨g, 0, none⟩), .int .i64 0] rfl (zz3_3_) ?_; (with_reducible refine (spec_l20Name.calls kj5 g s0_0 x1001_5 0 t164 t165 w0 _ ?side1 ?side2 A45.out).mono ?_); (case side1 => exact zz3_1_ HI0.out); (case side2 => exact zz3_2_ HB.out HI0.out); rintro e w46 ⟨rfl, hi, hb, hk⟩; refine ⟨_, rfl, ?_⟩; have n0_ := Aside0.mk (KeepBut.trans (zz3_0_ HK.out) hk (.inl rfl)); have n1_ := Aside0.mk (hb); have n2_ := Aside0.mk (hi); clear HK; clear HB; clear HI0; have HK := n0_; have HB := n1_; have HI0 := n2_; clear n0_ n1_ n2_; (try clear hb); (try clear hb2); (try clear hk); (try clear hi)) | ((with_reducible refine gate_dst (N := 53) rfl ?_); refine Kd.R_lit k39 _ 39 ?hg (N := 53) ?hd (xs := ([(⟨4, t164, 0⟩ : S39)] : List (S39))) (inner := [.int .i64 4, .string t164, .int .i64 0]) (ok := fun _ => True) (okp := fun _ => True) ?hr ?hp (fun _ hk => hk) trivial (Below.refl _ _) (Nat.le_refl _) (by simp) ?_; (case hd => rfl); (case hg => rfl); (case hr => first | (go_simp; done) | (go_simp; rfl)); (case hp => exact (Reps.c3 (show Kd.M k39 _ _ _ (⟨4, t164, 0⟩ : S39) [.int .i64 4, .string t164, .int .i64 0] from (k39_mkM _ _ _ (⟨4, t164, 0⟩ : S39) )) (Reps.none _ _))); intro v167 w47 ho48 hb hg_ hnew_; clear hg_ hnew_; (first | rw [← Ny166.out] at ho48 | (simp only [Int.reduceToNat] at ho48; rw [← Ny166.out] at ho48)); have n0_ := Aside0.mk (Kd.R_lower ho48 (keep_size (w := w) (g := g) (row := none) (zz3_0_ HK.out))); have n1_ := Aside0.mk (IsS71.below (zz3_1_ HI0.out) hb); have n2_ := Aside0.mk (KeepBut.trans (zz3_0_ HK.out) (KeepBut.of_below hb g none) (.inl rfl)); have n3_ := Aside0.mk (below_step (zz3_2_ HB.out HI0.out) hb); clear HI0; clear HK; clear HB; have HO168 := n0_; have HI0 := n1_; have HK := n2_; have HB := n3_; clear n0_ n1_ n2_ n3_; clear hb ho48))
         go_ret
         exact ⟨_, by first | rfl | (simp [errW_none, errW_some] <;> rfl) | (simp [*, errW_none, errW_some] <;> rfl), zz3_4_ HO168.out, zz3_1_ HI0.out, zz3_2_ HB.out HI0.out, zz3_0_ HK.out⟩
        ·rw [if_neg c44] at H
         have c44b0 : (x5_5 == 4) = false := beq_eq_false_iff_ne.mpr c44
         have c44b1 : (x5_5 != 4) = true := bne_iff_ne.mpr c44
         replace H := Option.bind_eq_some_iff.mp H
         obtain ⟨⟨t169, t170⟩, A490, H⟩ := H
         try dsimp only at H
         have A49 := Aside0.mk A490
         clear A490
         replace H := Option.bind_eq_some_iff.mp H
         obtain ⟨⟨t171, t172⟩, A500, H⟩ := H
         try dsimp only at H
         have A50 := Aside0.mk A500
         clear A500
         obtain ⟨y173, hy173⟩ : ∃ y_ : List Int, y_ = (([0, 0, 0, 0, 0, t169, wrap64 (1 + t171), 1, 2, 3] : List Int)) := ⟨_, rfl⟩
         replace H : (if 0 ≤ x5_5 then (if x5_5 < (y173.length : Int) then (if x5_5 = 6 then ((some (([(⟨#[108, 101, 110, 103, 116, 104]⟩ : ByteArray), (⟨#[117, 112, 112, 101, 114]⟩ : ByteArray), (⟨#[109, 105, 110]⟩ : ByteArray), (⟨#[109, 97, 120]⟩ : ByteArray), (⟨#[102, 105, 114, 115, 116]⟩ : ByteArray), (⟨#[114, 101, 118, 101, 114, 115, 101]⟩ : ByteArray), (⟨#[99, 111, 110, 116, 97, 105, 110, 115]⟩ : ByteArray), (⟨#[106, 111, 105, 110]⟩ : ByteArray), (⟨#[102]⟩ : ByteArray)] : List ByteArray) : List ByteArray)).bind fun y177 => ((spec_l20Rd_pick.f kj5 s0_0 t172 9).bind fun bt180 => (if 0 ≤ bt180.1 then (if bt180.1 < (y177.length : Int) then (spec_l20Cells.j1 kj5 a1 x5_5 (rd y173 x5_5) (rdOf ByteArray.empty y177 bt180.1) s0_0 bt180.2) else (none)) else (none)))) else (if x5_5 = 7 then ((some (([(⟨#[33]⟩ : ByteArray), (⟨#[45]⟩ : ByteArray)] : List ByteArray) : List ByteArray)).bind fun y183 => ((spec_l20Rd_pick.f kj5 s0_0 t172 2).bind fun bt186 => (if 0 ≤ bt186.1 then (if bt186.1 < (y183.length : Int) then (spec_l20Cells.j1 kj5 a1 x5_5 (rd y173 x5_5) (rdOf ByteArray.empty y183 bt186.1) s0_0 bt186.2) else (none)) else (none)))) else (if x5_5 = 8 then ((some (([(⟨#[124, 124]⟩ : ByteArray), (⟨#[38, 38]⟩ : ByteArray), (⟨#[61, 61]⟩ : ByteArray), (⟨#[33, 61]⟩ : ByteArray), (⟨#[60]⟩ : ByteArray), (⟨#[60, 61]⟩ : ByteArray), (⟨#[62]⟩ : ByteArray), (⟨#[62, 61]⟩ : ByteArray), (⟨#[43]⟩ : ByteArray), (⟨#[45]⟩ : ByteArray), (⟨#[42]⟩ : ByteArray), (⟨#[47]⟩ : ByteArray), (⟨#[37]⟩ : ByteArray), (⟨#[38, 38]⟩ : ByteArray), (⟨#[43]⟩ : ByteArray)] : List ByteArray) : List ByteArray)).bind fun y189 => ((spec_l20Rd_pick.f kj5 s0_0 t172 15).bind fun bt192 => (if 0 ≤ bt192.1 then (if bt192.1 < (y189.length : Int) then (spec_l20Cells.j1 kj5 a1 x5_5 (rd y173 x5_5) (rdOf ByteArray.empty y189 bt192.1) s0_0 bt192.2) else (none)) else (none)))) else (spec_l20Cells.j1 kj5 a1 x5_5 (rd y173 x5_5) (⟨#[]⟩ : ByteArray) s0_0 t172)))) else (none)) else (none)) = some (r1, r2) := by first | (rw [hy173]; with_reducible exact H) | (have H2_ := (Option.bind_some _ _).symm.trans H; rw [hy173]; with_reducible exact H2_) | (have H2_ := (Option.bind_some _ _).symm.trans H; with_reducible exact H2_) | with_reducible exact H | (rw [hy173]; exact H) | exact H
         have Ny173 := Aside0.mk hy173
         clear hy173
         by_cases c51 : 0 ≤ x5_5
         ·rw [if_pos c51] at H
          have c51b0 : decide (0 ≤ x5_5) = true := decide_eq_true c51
          clear c51
          by_cases c52 : x5_5 < (y173.length : Int)
          ·rw [if_pos c52] at H
           have c52b0 : decide (x5_5 < (y173.length : Int)) = true := decide_eq_true c52
           clear c52
           have HC53 := Aside0.mk H
           clear H
           go_upto_block 1 with (first | ((with_reducible refine gate_callee (f := 45) rfl ?_); refine goesL_ (some 55) rfl rfl Tryd.func45 (by kernel_rfl) rfl #[.pointer (some ⟨g, 0, none⟩), .int .i64 3] rfl (zz3_3_) ?_; (with_reducible refine (spec_l20Rd_pick.calls kj5 g s0_0 x1001_5 3 t169 t170 w0 _ ?side1 ?side2 A49.out).mono ?_); (case side1 => exact zz3_1_ HI0.out); (case side2 => exact zz3_2_ HB.out HI0.out); rintro e w54 ⟨rfl, hi, hb, hk⟩; refine ⟨_, rfl, ?_⟩; have n0_ := Aside0.mk (KeepBut.trans (zz3_0_ HK.out) hk (.inl rfl)); have n1_ := Aside0.mk (hb); have n2_ := Aside0.mk (hi); clear HK; clear HB; clear HI0; have HK := n0_; have HB := n1_; have HI0 := n2_; clear n0_ n1_ n2_; (try clear hb); (try clear hb2); (try clear hk); (try clear hi)) | ((with_reducible refine gate_callee (f := 45) rfl ?_); refine goesL_ (some 57) rfl rfl Tryd.func45 (by kernel_rfl) rfl #[.pointer (some ⟨g, 0, none⟩), .int .i64 2] rfl (zz3_3_) ?_; (with_reducible refine (spec_l20Rd_pick.calls kj5 g s0_0 t170 2 t171 t172 w0 _ ?side1 ?side2 A50.out).mono ?_); (case side1 => exact zz3_1_ HI0.out); (case side2 => exact zz3_2_ HB.out HI0.out); rintro e w55 ⟨rfl, hi, hb, hk⟩; refine ⟨_, rfl, ?_⟩; have n0_ := Aside0.mk (KeepBut.trans (zz3_0_ HK.out) hk (.inl rfl)); have n1_ := Aside0.mk (hb); have n2_ := Aside0.mk (hi); clear HK; clear HB; clear HI0; have HK := n0_; have HB := n1_; have HI0 := n2_; clear n0_ n1_ n2_; (try clear hb); (try clear hb2); (try clear hk); (try clear hi)) | ((with_reducible refine gate_dst (N := 59) rfl ?_); refine Kd.R_lit (Kd.int .i64) _ 3 ?hg (N := 59) ?hd (xs := ([0, 0, 0, 0, 0, t169, wrap64 (1 + t171), 1, 2, 3] : List Int)) (inner := [.int .i64 0, .int .i64 0, .int .i64 0, .int .i64 0, .int .i64 0, .int .i64 t169, .int .i64 (wrap64 (1 + t171)), .int .i64 1, .int .i64 2, .int .i64 3]) (ok := fun _ => True) (okp := fun _ => True) ?hr ?hp (fun _ hk => hk) trivial (Below.refl _ _) (Nat.le_refl _) (by simp) ?_; (case hd => rfl); (case hg => rfl); (case hr => first | (go_simp; done) | (go_simp; rfl)); (case hp => exact (Reps.one (show Kd.M (Kd.int .i64) _ _ _ 0 [.int .i64 0] from rfl) (Reps.one (show Kd.M (Kd.int .i64) _ _ _ 0 [.int .i64 0] from rfl) (Reps.one (show Kd.M (Kd.int .i64) _ _ _ 0 [.int .i64 0] from rfl) (Reps.one (show Kd.M (Kd.int .i64) _ _ _ 0 [.int .i64 0] from rfl) (Reps.one (show Kd.M (Kd.int .i64) _ _ _ 0 [.int .i64 0] from rfl) (Reps.one (show Kd.M (Kd.int .i64) _ _ _ t169 [.int .i64 t169] from rfl) (Reps.one (show Kd.M (Kd.int .i64) _ _ _ (wrap64 (1 + t171)) [.int .i64 (wrap64 (1 + t171))] from rfl) (Reps.one (show Kd.M (Kd.int .i64) _ _ _ 1 [.int .i64 1] from rfl) (Reps.one (show Kd.M (Kd.int .i64) _ _ _ 2 [.int .i64 2] from rfl) (Reps.one (show Kd.M (Kd.int .i64) _ _ _ 3 [.int .i64 3] from rfl) (Reps.none _ _)))))))))))); intro v174 w56 ho57 hb hg_ hnew_; clear hg_ hnew_; (first | rw [← Ny173.out] at ho57 | (simp only [Int.reduceToNat] at ho57; rw [← Ny173.out] at ho57)); have n0_ := Aside0.mk (Kd.R_lower ho57 (keep_size (w := w) (g := g) (row := none) (zz3_0_ HK.out))); have n1_ := Aside0.mk (IsS71.below (zz3_1_ HI0.out) hb); have n2_ := Aside0.mk (KeepBut.trans (zz3_0_ HK.out) (KeepBut.of_below hb g none) (.inl rfl)); have n3_ := Aside0.mk (below_step (zz3_2_ HB.out HI0.out) hb); clear HI0; clear HK; clear HB; have HO175 := n0_; have HI0 := n1_; have HK := n2_; have HB := n3_; clear n0_ n1_ n2_ n3_; clear hb ho57; obtain ⟨Ao58, co58, eo58⟩ := Kd.R_slice HO175.out; subst eo58; have p176 : 0 ≤ (x5_5 : Int) := of_decide_eq_true (zz3_5_); have q176 : x5_5 < (y173.length : Int) := of_decide_eq_true (zz3_5_); obtain ⟨ad176, e176, hx176_0⟩ := Kd.at_int (Kd.R_reads' HO175.out).2.2 x5_5 p176 q176; cases e176; replace p176 := eq_true p176; replace q176 := eq_true q176))
           (try simp only [Act.put, List.setIfInBounds_toArray, List.set_cons_zero, List.set_cons_succ])
           go_cut [7] (fun v7 wc => ∃ (kq : Nat) (x7_52 : ByteArray) (x1001_52 : Int), v7 = .string x7_52 ∧ Aside0 (spec_l20Cells.j1 kq a1 x5_5 (rd y173 x5_5) x7_52 s0_0 x1001_52 = some (r1, r2)) ∧ Aside0 (kq ≤ kj5) ∧ Aside0 (IsS71 w0 wc g s0_0 x1001_52) ∧ Aside0 (KeepBut w wc g none) ∧ Aside0 (Below w0.heap.size w0 wc))
           case first =>
            have H := HC53.out
            clear HC53
            by_cases c59 : x5_5 = 6
            ·rw [if_pos c59] at H
             have c59b0 : (x5_5 == 6) = true := beq_iff_eq.mpr c59
             have c59b1 : (x5_5 != 6) = false := bne_eq_false_iff_eq.mpr c59
             clear c59
             (first | rw [c59b0] | (simp only [i64_w, i32_w]; rw [c59b0]) | skip)
             obtain ⟨y177, hy177⟩ : ∃ y_ : List ByteArray, y_ = (([(⟨#[108, 101, 110, 103, 116, 104]⟩ : ByteArray), (⟨#[117, 112, 112, 101, 114]⟩ : ByteArray), (⟨#[109, 105, 110]⟩ : ByteArray), (⟨#[109, 97, 120]⟩ : ByteArray), (⟨#[102, 105, 114, 115, 116]⟩ : ByteArray), (⟨#[114, 101, 118, 101, 114, 115, 101]⟩ : ByteArray), (⟨#[99, 111, 110, 116, 97, 105, 110, 115]⟩ : ByteArray), (⟨#[106, 111, 105, 110]⟩ : ByteArray), (⟨#[102]⟩ : ByteArray)] : List ByteArray)) := ⟨_, rfl⟩
             replace H : ((spec_l20Rd_pick.f kj5 s0_0 t172 9).bind fun bt180 => (if 0 ≤ bt180.1 then (if bt180.1 < (y177.length : Int) then (spec_l20Cells.j1 kj5 a1 x5_5 (rd y173 x5_5) (rdOf ByteArray.empty y177 bt180.1) s0_0 bt180.2) else (none)) else (none))) = some (r1, r2) := by first | (rw [hy177]; with_reducible exact H) | (have H2_ := (Option.bind_some _ _).symm.trans H; rw [hy177]; with_reducible exact H2_) | (have H2_ := (Option.bind_some _ _).symm.trans H; with_reducible exact H2_) | with_reducible exact H | (rw [hy177]; exact H) | exact H
             have Ny177 := Aside0.mk hy177
             clear hy177
             replace H := Option.bind_eq_some_iff.mp H
             obtain ⟨⟨t180, t181⟩, A600, H⟩ := H
             try dsimp only at H
             have A60 := Aside0.mk A600
             clear A600
             by_cases c61 : 0 ≤ t180
             ·rw [if_pos c61] at H
              have c61b0 : decide (0 ≤ t180) = true := decide_eq_true c61
              clear c61
              by_cases c62 : t180 < (y177.length : Int)
              ·rw [if_pos c62] at H
               have c62b0 : decide (t180 < (y177.length : Int)) = true := decide_eq_true c62
               clear c62
               have H' := Aside0.mk H
               clear H
               go_wp2_with (first | ((with_reducible refine gate_dst (N := 66) rfl ?_); refine Kd.R_lit Kd.string _ 9 ?hg (N := 66) ?hd (xs := ([(⟨#[108, 101, 110, 103, 116, 104]⟩ : ByteArray), (⟨#[117, 112, 112, 101, 114]⟩ : ByteArray), (⟨#[109, 105, 110]⟩ : ByteArray), (⟨#[109, 97, 120]⟩ : ByteArray), (⟨#[102, 105, 114, 115, 116]⟩ : ByteArray), (⟨#[114, 101, 118, 101, 114, 115, 101]⟩ : ByteArray), (⟨#[99, 111, 110, 116, 97, 105, 110, 115]⟩ : ByteArray), (⟨#[106, 111, 105, 110]⟩ : ByteArray), (⟨#[102]⟩ : ByteArray)] : List ByteArray)) (inner := [.string (⟨#[108, 101, 110, 103, 116, 104]⟩ : ByteArray), .string (⟨#[117, 112, 112, 101, 114]⟩ : ByteArray), .string (⟨#[109, 105, 110]⟩ : ByteArray), .string (⟨#[109, 97, 120]⟩ : ByteArray), .string (⟨#[102, 105, 114, 115, 116]⟩ : ByteArray), .string (⟨#[114, 101, 118, 101, 114, 115, 101]⟩ : ByteArray), .string (⟨#[99, 111, 110, 116, 97, 105, 110, 115]⟩ : ByteArray), .string (⟨#[106, 111, 105, 110]⟩ : ByteArray), .string (⟨#[102]⟩ : ByteArray)]) (ok := fun _ => True) (okp := fun _ => True) ?hr ?hp (fun _ hk => hk) trivial (Below.refl _ _) (Nat.le_refl _) (by simp) ?_; (case hd => rfl); (case hg => rfl); (case hr => first | (go_simp; done) | (go_simp; rfl)); (case hp => exact (Reps.one (show Kd.M Kd.string _ _ _ (⟨#[108, 101, 110, 103, 116, 104]⟩ : ByteArray) [.string (⟨#[108, 101, 110, 103, 116, 104]⟩ : ByteArray)] from rfl) (Reps.one (show Kd.M Kd.string _ _ _ (⟨#[117, 112, 112, 101, 114]⟩ : ByteArray) [.string (⟨#[117, 112, 112, 101, 114]⟩ : ByteArray)] from rfl) (Reps.one (show Kd.M Kd.string _ _ _ (⟨#[109, 105, 110]⟩ : ByteArray) [.string (⟨#[109, 105, 110]⟩ : ByteArray)] from rfl) (Reps.one (show Kd.M Kd.string _ _ _ (⟨#[109, 97, 120]⟩ : ByteArray) [.string (⟨#[109, 97, 120]⟩ : ByteArray)] from rfl) (Reps.one (show Kd.M Kd.string _ _ _ (⟨#[102, 105, 114, 115, 116]⟩ : ByteArray) [.string (⟨#[102, 105, 114, 115, 116]⟩ : ByteArray)] from rfl) (Reps.one (show Kd.M Kd.string _ _ _ (⟨#[114, 101, 118, 101, 114, 115, 101]⟩ : ByteArray) [.string (⟨#[114, 101, 118, 101, 114, 115, 101]⟩ : ByteArray)] from rfl) (Reps.one (show Kd.M Kd.string _ _ _ (⟨#[99, 111, 110, 116, 97, 105, 110, 115]⟩ : ByteArray) [.string (⟨#[99, 111, 110, 116, 97, 105, 110, 115]⟩ : ByteArray)] from rfl) (Reps.one (show Kd.M Kd.string _ _ _ (⟨#[106, 111, 105, 110]⟩ : ByteArray) [.string (⟨#[106, 111, 105, 110]⟩ : ByteArray)] from rfl) (Reps.one (show Kd.M Kd.string _ _ _ (⟨#[102]⟩ : ByteArray) [.string (⟨#[102]⟩ : ByteArray)] from rfl) (Reps.none _ _))))))))))); intro v178 w63 ho64 hb hg_ hnew_; clear hg_ hnew_; (first | rw [← Ny177.out] at ho64 | (simp only [Int.reduceToNat] at ho64; rw [← Ny177.out] at ho64)); have n0_ := Aside0.mk (Kd.R_below (zz3_4_ HO175.out) hb); have n1_ := Aside0.mk (Kd.R_lower ho64 (keep_size (w := w) (g := g) (row := none) (zz3_0_ HK.out))); have n2_ := Aside0.mk (IsS71.below (zz3_1_ HI0.out) hb); have n3_ := Aside0.mk (KeepBut.trans (zz3_0_ HK.out) (KeepBut.of_below hb g none) (.inl rfl)); have n4_ := Aside0.mk (below_step (zz3_2_ HB.out HI0.out) hb); clear HO175; clear HI0; clear HK; clear HB; have HO175 := n0_; have HO179 := n1_; have HI0 := n2_; have HK := n3_; have HB := n4_; clear n0_ n1_ n2_ n3_ n4_; clear hb ho64) | ((with_reducible refine gate_callee (f := 45) rfl ?_); refine goesL_ (some 68) rfl rfl Tryd.func45 (by kernel_rfl) rfl #[.pointer (some ⟨g, 0, none⟩), .int .i64 9] rfl (zz3_3_) ?_; (with_reducible refine (spec_l20Rd_pick.calls kj5 g s0_0 t172 9 t180 t181 w0 _ ?side1 ?side2 A60.out).mono ?_); (case side1 => exact zz3_1_ HI0.out); (case side2 => exact zz3_2_ HB.out HI0.out); rintro e w65 ⟨rfl, hi, hb, hk⟩; refine ⟨_, rfl, ?_⟩; have n0_ := Aside0.mk (Kd.R_mono (Kd.R_keep (IsS71.apart (show IsS71 w0 _ g s0_0 t172 from by repeat (first | (with_reducible first | exact HI0.out | apply IsS71.alloc | apply IsS71.drewN | apply IsS71.drew | apply IsS71.set_1) | exact HI0.out)) (zz3_4_ HO175.out) (by decide)) hk (fun _ h => h.2)) (fun _ h => h.1)); have n1_ := Aside0.mk (Kd.R_mono (Kd.R_keep (IsS71.apart (show IsS71 w0 _ g s0_0 t172 from by repeat (first | (with_reducible first | exact HI0.out | apply IsS71.alloc | apply IsS71.drewN | apply IsS71.drew | apply IsS71.set_1) | exact HI0.out)) (zz3_4_ HO179.out) (by decide)) hk (fun _ h => h.2)) (fun _ h => h.1)); have n2_ := Aside0.mk (KeepBut.trans (zz3_0_ HK.out) hk (.inl rfl)); have n3_ := Aside0.mk (hb); have n4_ := Aside0.mk (hi); clear HO175; clear HO179; clear HK; clear HB; clear HI0; have HO175 := n0_; have HO179 := n1_; have HK := n2_; have HB := n3_; have HI0 := n4_; clear n0_ n1_ n2_ n3_ n4_; (try clear hb); (try clear hb2); (try clear hk); (try clear hi); obtain ⟨Ao66, co66, eo66⟩ := Kd.R_slice HO179.out; subst eo66; have p182 : 0 ≤ (t180 : Int) := of_decide_eq_true (zz3_5_); have q182 : t180 < (y177.length : Int) := of_decide_eq_true (zz3_5_); obtain ⟨ad182, e182, hx182_0⟩ := Kd.at_string (Kd.R_reads' HO179.out).2.2 t180 p182 q182; cases e182; replace p182 := eq_true p182; replace q182 := eq_true q182))
               go_meet
               case rel => exact ⟨_, (rdOf ByteArray.empty y177 t180), (t181), (by first | rfl | (simp; done) | (simp [*]; done)), H', ⟨by have := HJ5.out; first | omega | exact Nat.le_refl _⟩, ⟨zz3_1_ HI0.out⟩, ⟨zz3_0_ HK.out⟩, ⟨zz3_2_ HB.out HI0.out⟩⟩
              ·rw [if_neg c62] at H
               exact absurd H (by simp)
             ·rw [if_neg c61] at H
              exact absurd H (by simp)
            ·rw [if_neg c59] at H
             have c59b0 : (x5_5 == 6) = false := beq_eq_false_iff_ne.mpr c59
             have c59b1 : (x5_5 != 6) = true := bne_iff_ne.mpr c59
             (first | rw [c59b0] | (simp only [i64_w, i32_w]; rw [c59b0]) | skip)
             by_cases c67 : x5_5 = 7
             ·rw [if_pos c67] at H
              have c67b0 : (x5_5 == 7) = true := beq_iff_eq.mpr c67
              have c67b1 : (x5_5 != 7) = false := bne_eq_false_iff_eq.mpr c67
              clear c67
              obtain ⟨y183, hy183⟩ : ∃ y_ : List ByteArray, y_ = (([(⟨#[33]⟩ : ByteArray), (⟨#[45]⟩ : ByteArray)] : List ByteArray)) := ⟨_, rfl⟩
              replace H : ((spec_l20Rd_pick.f kj5 s0_0 t172 2).bind fun bt186 => (if 0 ≤ bt186.1 then (if bt186.1 < (y183.length : Int) then (spec_l20Cells.j1 kj5 a1 x5_5 (rd y173 x5_5) (rdOf ByteArray.empty y183 bt186.1) s0_0 bt186.2) else (none)) else (none))) = some (r1, r2) := by first | (rw [hy183]; with_reducible exact H) | (have H2_ := (Option.bind_some _ _).symm.trans H; rw [hy183]; with_reducible exact H2_) | (have H2_ := (Option.bind_some _ _).symm.trans H; with_reducible exact H2_) | with_reducible exact H | (rw [hy183]; exact H) | exact H
              have Ny183 := Aside0.mk hy183
              clear hy183
              replace H := Option.bind_eq_some_iff.mp H
              obtain ⟨⟨t186, t187⟩, A680, H⟩ := H
              try dsimp only at H
              have A68 := Aside0.mk A680
              clear A680
              by_cases c69 : 0 ≤ t186
              ·rw [if_pos c69] at H
               have c69b0 : decide (0 ≤ t186) = true := decide_eq_true c69
               clear c69
               by_cases c70 : t186 < (y183.length : Int)
               ·rw [if_pos c70] at H
                have c70b0 : decide (t186 < (y183.length : Int)) = true := decide_eq_true c70
                clear c70
                have H' := Aside0.mk H
                clear H
                go_wp2_with (first | ((with_reducible refine gate_dst (N := 73) rfl ?_); refine Kd.R_lit Kd.string _ 9 ?hg (N := 73) ?hd (xs := ([(⟨#[33]⟩ : ByteArray), (⟨#[45]⟩ : ByteArray)] : List ByteArray)) (inner := [.string (⟨#[33]⟩ : ByteArray), .string (⟨#[45]⟩ : ByteArray)]) (ok := fun _ => True) (okp := fun _ => True) ?hr ?hp (fun _ hk => hk) trivial (Below.refl _ _) (Nat.le_refl _) (by simp) ?_; (case hd => rfl); (case hg => rfl); (case hr => first | (go_simp; done) | (go_simp; rfl)); (case hp => exact (Reps.one (show Kd.M Kd.string _ _ _ (⟨#[33]⟩ : ByteArray) [.string (⟨#[33]⟩ : ByteArray)] from rfl) (Reps.one (show Kd.M Kd.string _ _ _ (⟨#[45]⟩ : ByteArray) [.string (⟨#[45]⟩ : ByteArray)] from rfl) (Reps.none _ _)))); intro v184 w71 ho72 hb hg_ hnew_; clear hg_ hnew_; (first | rw [← Ny183.out] at ho72 | (simp only [Int.reduceToNat] at ho72; rw [← Ny183.out] at ho72)); have n0_ := Aside0.mk (Kd.R_below (zz3_4_ HO175.out) hb); have n1_ := Aside0.mk (Kd.R_lower ho72 (keep_size (w := w) (g := g) (row := none) (zz3_0_ HK.out))); have n2_ := Aside0.mk (IsS71.below (zz3_1_ HI0.out) hb); have n3_ := Aside0.mk (KeepBut.trans (zz3_0_ HK.out) (KeepBut.of_below hb g none) (.inl rfl)); have n4_ := Aside0.mk (below_step (zz3_2_ HB.out HI0.out) hb); clear HO175; clear HI0; clear HK; clear HB; have HO175 := n0_; have HO185 := n1_; have HI0 := n2_; have HK := n3_; have HB := n4_; clear n0_ n1_ n2_ n3_ n4_; clear hb ho72) | ((with_reducible refine gate_callee (f := 45) rfl ?_); refine goesL_ (some 75) rfl rfl Tryd.func45 (by kernel_rfl) rfl #[.pointer (some ⟨g, 0, none⟩), .int .i64 2] rfl (zz3_3_) ?_; (with_reducible refine (spec_l20Rd_pick.calls kj5 g s0_0 t172 2 t186 t187 w0 _ ?side1 ?side2 A68.out).mono ?_); (case side1 => exact zz3_1_ HI0.out); (case side2 => exact zz3_2_ HB.out HI0.out); rintro e w73 ⟨rfl, hi, hb, hk⟩; refine ⟨_, rfl, ?_⟩; have n0_ := Aside0.mk (Kd.R_mono (Kd.R_keep (IsS71.apart (show IsS71 w0 _ g s0_0 t172 from by repeat (first | (with_reducible first | exact HI0.out | apply IsS71.alloc | apply IsS71.drewN | apply IsS71.drew | apply IsS71.set_1) | exact HI0.out)) (zz3_4_ HO175.out) (by decide)) hk (fun _ h => h.2)) (fun _ h => h.1)); have n1_ := Aside0.mk (Kd.R_mono (Kd.R_keep (IsS71.apart (show IsS71 w0 _ g s0_0 t172 from by repeat (first | (with_reducible first | exact HI0.out | apply IsS71.alloc | apply IsS71.drewN | apply IsS71.drew | apply IsS71.set_1) | exact HI0.out)) (zz3_4_ HO185.out) (by decide)) hk (fun _ h => h.2)) (fun _ h => h.1)); have n2_ := Aside0.mk (KeepBut.trans (zz3_0_ HK.out) hk (.inl rfl)); have n3_ := Aside0.mk (hb); have n4_ := Aside0.mk (hi); clear HO175; clear HO185; clear HK; clear HB; clear HI0; have HO175 := n0_; have HO185 := n1_; have HK := n2_; have HB := n3_; have HI0 := n4_; clear n0_ n1_ n2_ n3_ n4_; (try clear hb); (try clear hb2); (try clear hk); (try clear hi); obtain ⟨Ao74, co74, eo74⟩ := Kd.R_slice HO185.out; subst eo74; have p188 : 0 ≤ (t186 : Int) := of_decide_eq_true (zz3_5_); have q188 : t186 < (y183.length : Int) := of_decide_eq_true (zz3_5_); obtain ⟨ad188, e188, hx188_0⟩ := Kd.at_string (Kd.R_reads' HO185.out).2.2 t186 p188 q188; cases e188; replace p188 := eq_true p188; replace q188 := eq_true q188))
                go_meet
                case rel => exact ⟨_, (rdOf ByteArray.empty y183 t186), (t187), (by first | rfl | (simp; done) | (simp [*]; done)), H', ⟨by have := HJ5.out; first | omega | exact Nat.le_refl _⟩, ⟨zz3_1_ HI0.out⟩, ⟨zz3_0_ HK.out⟩, ⟨zz3_2_ HB.out HI0.out⟩⟩
               ·rw [if_neg c70] at H
                exact absurd H (by simp)
              ·rw [if_neg c69] at H
               exact absurd H (by simp)
             ·rw [if_neg c67] at H
              have c67b0 : (x5_5 == 7) = false := beq_eq_false_iff_ne.mpr c67
              have c67b1 : (x5_5 != 7) = true := bne_iff_ne.mpr c67
              by_cases c75 : x5_5 = 8
              ·rw [if_pos c75] at H
               have c75b0 : (x5_5 == 8) = true := beq_iff_eq.mpr c75
               have c75b1 : (x5_5 != 8) = false := bne_eq_false_iff_eq.mpr c75
               clear c75
               obtain ⟨y189, hy189⟩ : ∃ y_ : List ByteArray, y_ = (([(⟨#[124, 124]⟩ : ByteArray), (⟨#[38, 38]⟩ : ByteArray), (⟨#[61, 61]⟩ : ByteArray), (⟨#[33, 61]⟩ : ByteArray), (⟨#[60]⟩ : ByteArray), (⟨#[60, 61]⟩ : ByteArray), (⟨#[62]⟩ : ByteArray), (⟨#[62, 61]⟩ : ByteArray), (⟨#[43]⟩ : ByteArray), (⟨#[45]⟩ : ByteArray), (⟨#[42]⟩ : ByteArray), (⟨#[47]⟩ : ByteArray), (⟨#[37]⟩ : ByteArray), (⟨#[38, 38]⟩ : ByteArray), (⟨#[43]⟩ : ByteArray)] : List ByteArray)) := ⟨_, rfl⟩
               replace H : ((spec_l20Rd_pick.f kj5 s0_0 t172 15).bind fun bt192 => (if 0 ≤ bt192.1 then (if bt192.1 < (y189.length : Int) then (spec_l20Cells.j1 kj5 a1 x5_5 (rd y173 x5_5) (rdOf ByteArray.empty y189 bt192.1) s0_0 bt192.2) else (none)) else (none))) = some (r1, r2) := by first | (rw [hy189]; with_reducible exact H) | (have H2_ := (Option.bind_some _ _).symm.trans H; rw [hy189]; with_reducible exact H2_) | (have H2_ := (Option.bind_some _ _).symm.trans H; with_reducible exact H2_) | with_reducible exact H | (rw [hy189]; exact H) | exact H
               have Ny189 := Aside0.mk hy189
               clear hy189
               replace H := Option.bind_eq_some_iff.mp H
               obtain ⟨⟨t192, t193⟩, A760, H⟩ := H
               try dsimp only at H
               have A76 := Aside0.mk A760
               clear A760
               by_cases c77 : 0 ≤ t192
               ·rw [if_pos c77] at H
                have c77b0 : decide (0 ≤ t192) = true := decide_eq_true c77
                clear c77
                by_cases c78 : t192 < (y189.length : Int)
                ·rw [if_pos c78] at H
                 have c78b0 : decide (t192 < (y189.length : Int)) = true := decide_eq_true c78
                 clear c78
                 have H' := Aside0.mk H
                 clear H
                 go_wp2_with (first | ((with_reducible refine gate_dst (N := 80) rfl ?_); refine Kd.R_lit Kd.string _ 9 ?hg (N := 80) ?hd (xs := ([(⟨#[124, 124]⟩ : ByteArray), (⟨#[38, 38]⟩ : ByteArray), (⟨#[61, 61]⟩ : ByteArray), (⟨#[33, 61]⟩ : ByteArray), (⟨#[60]⟩ : ByteArray), (⟨#[60, 61]⟩ : ByteArray), (⟨#[62]⟩ : ByteArray), (⟨#[62, 61]⟩ : ByteArray), (⟨#[43]⟩ : ByteArray), (⟨#[45]⟩ : ByteArray), (⟨#[42]⟩ : ByteArray), (⟨#[47]⟩ : ByteArray), (⟨#[37]⟩ : ByteArray), (⟨#[38, 38]⟩ : ByteArray), (⟨#[43]⟩ : ByteArray)] : List ByteArray)) (inner := [.string (⟨#[124, 124]⟩ : ByteArray), .string (⟨#[38, 38]⟩ : ByteArray), .string (⟨#[61, 61]⟩ : ByteArray), .string (⟨#[33, 61]⟩ : ByteArray), .string (⟨#[60]⟩ : ByteArray), .string (⟨#[60, 61]⟩ : ByteArray), .string (⟨#[62]⟩ : ByteArray), .string (⟨#[62, 61]⟩ : ByteArray), .string (⟨#[43]⟩ : ByteArray), .string (⟨#[45]⟩ : ByteArray), .string (⟨#[42]⟩ : ByteArray), .string (⟨#[47]⟩ : ByteArray), .string (⟨#[37]⟩ : ByteArray), .string (⟨#[38, 38]⟩ : ByteArray), .string (⟨#[43]⟩ : ByteArray)]) (ok := fun _ => True) (okp := fun _ => True) ?hr ?hp (fun _ hk => hk) trivial (Below.refl _ _) (Nat.le_refl _) (by simp) ?_; (case hd => rfl); (case hg => rfl); (case hr => first | (go_simp; done) | (go_simp; rfl)); (case hp => exact (Reps.one (show Kd.M Kd.string _ _ _ (⟨#[124, 124]⟩ : ByteArray) [.string (⟨#[124, 124]⟩ : ByteArray)] from rfl) (Reps.one (show Kd.M Kd.string _ _ _ (⟨#[38, 38]⟩ : ByteArray) [.string (⟨#[38, 38]⟩ : ByteArray)] from rfl) (Reps.one (show Kd.M Kd.string _ _ _ (⟨#[61, 61]⟩ : ByteArray) [.string (⟨#[61, 61]⟩ : ByteArray)] from rfl) (Reps.one (show Kd.M Kd.string _ _ _ (⟨#[33, 61]⟩ : ByteArray) [.string (⟨#[33, 61]⟩ : ByteArray)] from rfl) (Reps.one (show Kd.M Kd.string _ _ _ (⟨#[60]⟩ : ByteArray) [.string (⟨#[60]⟩ : ByteArray)] from rfl) (Reps.one (show Kd.M Kd.string _ _ _ (⟨#[60, 61]⟩ : ByteArray) [.string (⟨#[60, 61]⟩ : ByteArray)] from rfl) (Reps.one (show Kd.M Kd.string _ _ _ (⟨#[62]⟩ : ByteArray) [.string (⟨#[62]⟩ : ByteArray)] from rfl) (Reps.one (show Kd.M Kd.string _ _ _ (⟨#[62, 61]⟩ : ByteArray) [.string (⟨#[62, 61]⟩ : ByteArray)] from rfl) (Reps.one (show Kd.M Kd.string _ _ _ (⟨#[43]⟩ : ByteArray) [.string (⟨#[43]⟩ : ByteArray)] from rfl) (Reps.one (show Kd.M Kd.string _ _ _ (⟨#[45]⟩ : ByteArray) [.string (⟨#[45]⟩ : ByteArray)] from rfl) (Reps.one (show Kd.M Kd.string _ _ _ (⟨#[42]⟩ : ByteArray) [.string (⟨#[42]⟩ : ByteArray)] from rfl) (Reps.one (show Kd.M Kd.string _ _ _ (⟨#[47]⟩ : ByteArray) [.string (⟨#[47]⟩ : ByteArray)] from rfl) (Reps.one (show Kd.M Kd.string _ _ _ (⟨#[37]⟩ : ByteArray) [.string (⟨#[37]⟩ : ByteArray)] from rfl) (Reps.one (show Kd.M Kd.string _ _ _ (⟨#[38, 38]⟩ : ByteArray) [.string (⟨#[38, 38]⟩ : ByteArray)] from rfl) (Reps.one (show Kd.M Kd.string _ _ _ (⟨#[43]⟩ : ByteArray) [.string (⟨#[43]⟩ : ByteArray)] from rfl) (Reps.none _ _))))))))))))))))); intro v190 w79 ho80 hb hg_ hnew_; clear hg_ hnew_; (first | rw [← Ny189.out] at ho80 | (simp only [Int.reduceToNat] at ho80; rw [← Ny189.out] at ho80)); have n0_ := Aside0.mk (Kd.R_below (zz3_4_ HO175.out) hb); have n1_ := Aside0.mk (Kd.R_lower ho80 (keep_size (w := w) (g := g) (row := none) (zz3_0_ HK.out))); have n2_ := Aside0.mk (IsS71.below (zz3_1_ HI0.out) hb); have n3_ := Aside0.mk (KeepBut.trans (zz3_0_ HK.out) (KeepBut.of_below hb g none) (.inl rfl)); have n4_ := Aside0.mk (below_step (zz3_2_ HB.out HI0.out) hb); clear HO175; clear HI0; clear HK; clear HB; have HO175 := n0_; have HO191 := n1_; have HI0 := n2_; have HK := n3_; have HB := n4_; clear n0_ n1_ n2_ n3_ n4_; clear hb ho80) | ((with_reducible refine gate_callee (f := 45) rfl ?_); refine goesL_ (some 82) rfl rfl Tryd.func45 (by kernel_rfl) rfl #[.pointer (some ⟨g, 0, none⟩), .int .i64 15] rfl (zz3_3_) ?_; (with_reducible refine (spec_l20Rd_pick.calls kj5 g s0_0 t172 15 t192 t193 w0 _ ?side1 ?side2 A76.out).mono ?_); (case side1 => exact zz3_1_ HI0.out); (case side2 => exact zz3_2_ HB.out HI0.out); rintro e w81 ⟨rfl, hi, hb, hk⟩; refine ⟨_, rfl, ?_⟩; have n0_ := Aside0.mk (Kd.R_mono (Kd.R_keep (IsS71.apart (show IsS71 w0 _ g s0_0 t172 from by repeat (first | (with_reducible first | exact HI0.out | apply IsS71.alloc | apply IsS71.drewN | apply IsS71.drew | apply IsS71.set_1) | exact HI0.out)) (zz3_4_ HO175.out) (by decide)) hk (fun _ h => h.2)) (fun _ h => h.1)); have n1_ := Aside0.mk (Kd.R_mono (Kd.R_keep (IsS71.apart (show IsS71 w0 _ g s0_0 t172 from by repeat (first | (with_reducible first | exact HI0.out | apply IsS71.alloc | apply IsS71.drewN | apply IsS71.drew | apply IsS71.set_1) | exact HI0.out)) (zz3_4_ HO191.out) (by decide)) hk (fun _ h => h.2)) (fun _ h => h.1)); have n2_ := Aside0.mk (KeepBut.trans (zz3_0_ HK.out) hk (.inl rfl)); have n3_ := Aside0.mk (hb); have n4_ := Aside0.mk (hi); clear HO175; clear HO191; clear HK; clear HB; clear HI0; have HO175 := n0_; have HO191 := n1_; have HK := n2_; have HB := n3_; have HI0 := n4_; clear n0_ n1_ n2_ n3_ n4_; (try clear hb); (try clear hb2); (try clear hk); (try clear hi); obtain ⟨Ao82, co82, eo82⟩ := Kd.R_slice HO191.out; subst eo82; have p194 : 0 ≤ (t192 : Int) := of_decide_eq_true (zz3_5_); have q194 : t192 < (y189.length : Int) := of_decide_eq_true (zz3_5_); obtain ⟨ad194, e194, hx194_0⟩ := Kd.at_string (Kd.R_reads' HO191.out).2.2 t192 p194 q194; cases e194; replace p194 := eq_true p194; replace q194 := eq_true q194))
                 go_meet
                 case rel => exact ⟨_, (rdOf ByteArray.empty y189 t192), (t193), (by first | rfl | (simp; done) | (simp [*]; done)), H', ⟨by have := HJ5.out; first | omega | exact Nat.le_refl _⟩, ⟨zz3_1_ HI0.out⟩, ⟨zz3_0_ HK.out⟩, ⟨zz3_2_ HB.out HI0.out⟩⟩
                ·rw [if_neg c78] at H
                 exact absurd H (by simp)
               ·rw [if_neg c77] at H
                exact absurd H (by simp)
              ·rw [if_neg c75] at H
               have c75b0 : (x5_5 == 8) = false := beq_eq_false_iff_ne.mpr c75
               have c75b1 : (x5_5 != 8) = true := bne_iff_ne.mpr c75
               have H' := Aside0.mk H
               clear H
               go_wp2
               go_meet
               case rel => exact ⟨_, ((⟨#[]⟩ : ByteArray)), (t172), (by first | rfl | (simp; done) | (simp [*]; done)), H', ⟨by have := HJ5.out; first | omega | exact Nat.le_refl _⟩, ⟨zz3_1_ HI0.out⟩, ⟨zz3_0_ HK.out⟩, ⟨zz3_2_ HB.out HI0.out⟩⟩
           case rest =>
            clear HC53
            try clear c1
            try clear p1
            try clear q1
            try clear hx1
            try clear c2
            try clear p2
            try clear c3
            try clear c4
            try clear c4b0
            try clear c5
            try clear c5b0
            try clear c6
            try clear p6
            try clear c7
            try clear c11
            try clear c11b0
            try clear p13
            try clear q13
            try clear hx13
            try clear c14
            try clear c14b0
            try clear c14b1
            try clear p14
            try clear q14
            try clear hx14
            try clear p15
            try clear q15
            try clear hx15
            try clear c16
            try clear c16b0
            try clear p16
            try clear q16
            try clear hx16
            try clear c17
            try clear c17b0
            try clear p17
            try clear q17
            try clear hx17
            try clear p18
            try clear q18
            try clear hx18
            try clear p19
            try clear q19
            try clear hx19
            try clear c24
            try clear c24b0
            try clear c24b1
            try clear c26
            try clear c26b0
            try clear c27
            try clear c27b0
            try clear c34
            try clear c34b0
            try clear c34b1
            try clear c36
            try clear c36b0
            try clear c37
            try clear c37b0
            try clear c44
            try clear c44b0
            try clear c44b1
            try clear c45
            try clear c51
            try clear c51b0
            try clear c52
            try clear c52b0
            try clear c59
            try clear c59b0
            try clear c59b1
            try clear c61
            try clear c61b0
            try clear c62
            try clear c62b0
            try clear p64
            try clear c67
            try clear c67b0
            try clear c67b1
            try clear c69
            try clear c69b0
            try clear c70
            try clear c70b0
            try clear c73
            try clear c75
            try clear c75b0
            try clear c75b1
            try clear c77
            try clear c77b0
            try clear c78
            try clear c78b0
            try clear hx134_0
            try clear hx142_0
            try clear hx151_0
            try clear hx160_0
            try clear hx176_0
            try clear hx182_0
            try clear hx188_0
            try clear hx194_0
            try clear p1
            try clear p13
            try clear p134
            try clear p142
            try clear p151
            try clear p160
            try clear p176
            try clear p182
            try clear p188
            try clear p194
            try clear p2
            try clear p6
            try clear q1
            try clear q13
            try clear q134
            try clear q142
            try clear q151
            try clear q160
            try clear q176
            try clear q182
            try clear q188
            try clear q194
            obtain ⟨kq, x7_52, x1001_52, rfl, HA, HJ52, HI0, HK, HB⟩ := hcut
            cases kq with
            | zero => exact absurd HA.out (by simp [spec_l20Cells.j1])
            | succ kj52 =>
             have H := HA.out
             clear HA
             simp only [spec_l20Cells.j1] at H
             obtain ⟨y195, hy195⟩ : ∃ y_ : List (S39), y_ = (([(⟨x5_5, x7_52, (rd y173 x5_5)⟩ : S39)] : List (S39))) := ⟨_, rfl⟩
             replace H : (spec_l20Cells.l0 kj52 a1 (rd y173 x5_5) y195 0 s0_0 x1001_52) = some (r1, r2) := by first | (rw [hy195]; with_reducible exact H) | (have H2_ := (Option.bind_some _ _).symm.trans H; rw [hy195]; with_reducible exact H2_) | (have H2_ := (Option.bind_some _ _).symm.trans H; with_reducible exact H2_) | with_reducible exact H | (rw [hy195]; exact H) | exact H
             have Ny195 := Aside0.mk hy195
             clear hy195
             have H' := Aside0.mk H
             clear H
             go_wp2_with (first | ((with_reducible refine gate_dst (N := 89) rfl ?_); refine Kd.R_lit k39 _ 39 ?hg (N := 89) ?hd (xs := ([(⟨x5_5, x7_52, (rd y173 x5_5)⟩ : S39)] : List (S39))) (inner := [.int .i64 x5_5, .string x7_52, .int .i64 (rd y173 x5_5)]) (ok := fun _ => True) (okp := fun _ => True) ?hr ?hp (fun _ hk => hk) trivial (Below.refl _ _) (Nat.le_refl _) (by simp) ?_; (case hd => rfl); (case hg => rfl); (case hr => first | (go_simp; done) | (go_simp; rfl)); (case hp => exact (Reps.c3 (show Kd.M k39 _ _ _ (⟨x5_5, x7_52, (rd y173 x5_5)⟩ : S39) [.int .i64 x5_5, .string x7_52, .int .i64 (rd y173 x5_5)] from (k39_mkM _ _ _ (⟨x5_5, x7_52, (rd y173 x5_5)⟩ : S39) )) (Reps.none _ _))); intro v196 w83 ho84 hb hg_ hnew_; clear hg_ hnew_; (first | rw [← Ny195.out] at ho84 | (simp only [Int.reduceToNat] at ho84; rw [← Ny195.out] at ho84)); have n0_ := Aside0.mk (Kd.R_lower ho84 (keep_size (w := w) (g := g) (row := none) (zz3_0_ HK.out))); have n1_ := Aside0.mk (IsS71.below (zz3_1_ HI0.out) hb); have n2_ := Aside0.mk (KeepBut.trans (zz3_0_ HK.out) (KeepBut.of_below hb g none) (.inl rfl)); have n3_ := Aside0.mk (below_step (zz3_2_ HB.out HI0.out) hb); clear HI0; clear HK; clear HB; have HO197 := n0_; have HI0 := n1_; have HK := n2_; have HB := n3_; clear n0_ n1_ n2_ n3_; clear hb ho84))
             go_loopg [8, 9] kj52 (fun kq v8 v9 w' => ∃ (x8_3 : List (S39)) (x9_3 : Int) (x1001_3 : Int), v9 = .int .i64 x9_3 ∧ Aside0 (spec_l20Cells.l0 kq a1 (rd y173 x5_5) x8_3 x9_3 s0_0 x1001_3 = some (r1, r2)) ∧ Aside0 (kq ≤ kj52) ∧ Aside0 (Kd.R k39 39 w' w.heap.size (fun _ => True) v8 x8_3) ∧ Aside0 (IsS71 w0 w' g s0_0 x1001_3) ∧ Aside0 (KeepBut w w' g none) ∧ Aside0 (Below w0.heap.size w0 w'))
             case atStart => exact ⟨(y195), (0), (x1001_52), (by first | rfl | (simp; done) | (simp [*]; done)), H', ⟨Nat.le_refl _⟩, ⟨zz3_4_ HO197.out⟩, ⟨zz3_1_ HI0.out⟩, ⟨zz3_0_ HK.out⟩, ⟨zz3_2_ HB.out HI0.out⟩⟩
             case round =>
              clear H'
              try clear c1
              try clear p1
              try clear q1
              try clear hx1
              try clear c2
              try clear p2
              try clear c3
              try clear c4
              try clear c4b0
              try clear c5
              try clear c5b0
              try clear c6
              try clear p6
              try clear c7
              try clear c11
              try clear c11b0
              try clear p13
              try clear q13
              try clear hx13
              try clear c14
              try clear c14b0
              try clear c14b1
              try clear p14
              try clear q14
              try clear hx14
              try clear p15
              try clear q15
              try clear hx15
              try clear c16
              try clear c16b0
              try clear p16
              try clear q16
              try clear hx16
              try clear c17
              try clear c17b0
              try clear p17
              try clear q17
              try clear hx17
              try clear p18
              try clear q18
              try clear hx18
              try clear p19
              try clear q19
              try clear hx19
              try clear c24
              try clear c24b0
              try clear c24b1
              try clear c26
              try clear c26b0
              try clear c27
              try clear c27b0
              try clear c34
              try clear c34b0
              try clear c34b1
              try clear c36
              try clear c36b0
              try clear c37
              try clear c37b0
              try clear c44
              try clear c44b0
              try clear c44b1
              try clear c45
              try clear c51
              try clear c51b0
              try clear c52
              try clear c52b0
              try clear c59
              try clear c59b0
              try clear c59b1
              try clear c61
              try clear c61b0
              try clear c62
              try clear c62b0
              try clear p64
              try clear c67
              try clear c67b0
              try clear c67b1
              try clear c69
              try clear c69b0
              try clear c70
              try clear c70b0
              try clear c73
              try clear c75
              try clear c75b0
              try clear c75b1
              try clear c77
              try clear c77b0
              try clear c78
              try clear c78b0
              try clear hx134_0
              try clear hx142_0
              try clear hx151_0
              try clear hx160_0
              try clear hx176_0
              try clear hx182_0
              try clear hx188_0
              try clear hx194_0
              try clear p1
              try clear p13
              try clear p134
              try clear p14
              try clear p142
              try clear p15
              try clear p151
              try clear p16
              try clear p160
              try clear p17
              try clear p176
              try clear p18
              try clear p182
              try clear p188
              try clear p19
              try clear p194
              try clear p2
              try clear p6
              try clear p64
              try clear q1
              try clear q13
              try clear q134
              try clear q14
              try clear q142
              try clear q15
              try clear q151
              try clear q16
              try clear q160
              try clear q17
              try clear q176
              try clear q18
              try clear q182
              try clear q188
              try clear q19
              try clear q194
              obtain ⟨x8_3, x9_3, x1001_3, rfl, HA, HK3, HO_8, HI0, HK, HB⟩ := hrel
              cases gk with
              | zero => exact absurd HA.out (by simp [spec_l20Cells.l0])
              | succ k3 =>
               have H := HA.out
               clear HA
               simp only [spec_l20Cells.l0] at H
               by_cases c85 : x9_3 < (rd y173 x5_5)
               ·rw [if_pos c85] at H
                have c85b0 : decide (x9_3 < (rd y173 x5_5)) = true := decide_eq_true c85
                clear c85
                replace H := Option.bind_eq_some_iff.mp H
                obtain ⟨⟨t198, t201⟩, A860, H⟩ := H
                try dsimp only at H
                have A86 := Aside0.mk A860
                clear A860
                by_cases c87 : x8_3.length + t198.length < 4398046511104
                ·rw [if_pos c87] at H
                 have LMc87 := Aside0.mk c87
                 clear c87
                 obtain ⟨y202, hy202⟩ : ∃ y_ : List (S39), y_ = (x8_3 ++ t198) := ⟨_, rfl⟩
                 replace H : (spec_l20Cells.l0 k3 a1 (rd y173 x5_5) y202 (wrap64 (x9_3 + 1)) s0_0 t201) = some (r1, r2) := by first | (rw [hy202]; with_reducible exact H) | (have H2_ := (Option.bind_some _ _).symm.trans H; rw [hy202]; with_reducible exact H2_) | (have H2_ := (Option.bind_some _ _).symm.trans H; with_reducible exact H2_) | with_reducible exact H | (rw [hy202]; exact H) | exact H
                 have Ny202 := Aside0.mk hy202
                 clear hy202
                 have H' := Aside0.mk H
                 clear H
                 go_wp2_with (first | ((with_reducible refine gate_callee (f := 59) rfl ?_); refine goesL_ (some 99) rfl rfl Tryd.func59 (by kernel_rfl) rfl #[.pointer (some ⟨g, 0, none⟩), .int .i64 (wrap64 (a1 - 1))] rfl (zz3_3_) ?_; (with_reducible refine (ih k3 (by have := HJ5.out; have := HJ52.out; have := HK3.out; omega) g s0_0 x1001_3 (wrap64 (a1 - 1)) t198 t201 w0 _ ?side1 ?side2 A86.out).mono ?_); (case side1 => exact zz3_1_ HI0.out); (case side2 => exact zz3_2_ HB.out HI0.out); rintro e w88 ⟨v199, rfl, ho0, hi, hb, hk⟩; refine ⟨_, rfl, ?_⟩; have n0_ := Aside0.mk (Kd.R_mono (Kd.R_told (Kd.R_oldK (IsS71.apart (show IsS71 w0 _ g s0_0 x1001_3 from by repeat (first | (with_reducible first | exact HI0.out | apply IsS71.alloc | apply IsS71.drewN | apply IsS71.drew | apply IsS71.set_1) | exact HI0.out)) (zz3_4_ HO_8.out) (by decide)) hk) (Kd.R_base ho0)) (fun _ h_ => h_.1)); have n1_ := Aside0.mk (Kd.R_lower (Kd.R_new' ho0 (Kd.R_lt (zz3_4_ HO_8.out))) (keep_size (w := w) (g := g) (row := none) (zz3_0_ HK.out))); have n2_ := Aside0.mk (KeepBut.trans (zz3_0_ HK.out) hk (.inl rfl)); have n3_ := Aside0.mk (hb); have n4_ := Aside0.mk (hi); clear HO_8; clear HK; clear HB; clear HI0; have HO_8 := n0_; have HO200 := n1_; have HK := n2_; have HB := n3_; have HI0 := n4_; clear n0_ n1_ n2_ n3_ n4_; (try clear hb); (try clear hb2); (try clear hk); (try clear hi); (try clear ho0); obtain ⟨Ao90, co90, eo90⟩ := Kd.R_slice HO200.out; subst eo90) | ((with_reducible refine gate_builtin (b := .append) (xs := #[.tmp 95, .tmp 99]) rfl ?_); at_builtin; refine Kd.R_append_rows k39 w.heap.size rfl (.tmp 95) (.tmp 99) 64 39 (.agg #[(.int .i64 0), (.string ⟨#[]⟩), (.int .i64 0)]) 32 rfl Tryd.underlying64 info39 rfl (by decide) (by omega) u8 x8_3 t198 _ _ _ (fun k_ => some k_ ≠ (.slice Ao90 t198.length co90 : Value).ownBlock) (fun _ => False) rfl rfl ?aO ?aR (fun _ _ h => h) (fun _ h => h.elim) ?aF (Below.refl _ _) ?aS ?aL ?_; (case aR => repeat (first | exact (Kd.R_reads' HO200.out).2.2 | (with_reducible refine Kd.C_alloc ?_ _) | (with_reducible refine Kd.C_drewN ?_ _) | (with_reducible refine Kd.C_drew ?_))); (case aF => exact (fun k_ hk => Kd.fresh' (Kd.R_lt (zz3_4_ HO200.out)) k_ hk)); (case aO => exact (by (with_reducible repeat (first | apply Kd.R_alloc | apply Kd.R_drewN | apply Kd.R_drew)); exact Kd.R_mono HO_8.out (fun _ hk => hk.2))); (case aS => exact (keep_size (w := w) (g := g) (row := none) (zz3_0_ HK.out))); (case aL => have := LMc87.out; omega); intro v203 w89 ho hb hg hat; rw [← Ny202.out] at ho; have n0_ := Aside0.mk (IsS71.grown (zz3_1_ HI0.out) hg (IsS71.own_ne HI0.out HO_8.out (by decide))); have n1_ := Aside0.mk (Kd.R_after (ok := (fun _ => True)) (zz3_4_ HO200.out) hg hat); have n2_ := Aside0.mk (below_weaken (zz3_2_ HB.out HI0.out) HL.out hb); have n3_ := Aside0.mk (KeepBut.trans (zz3_0_ HK.out) (KeepBut.of_grown hg g) (Kd.R_base2 HO_8.out)); have n4_ := Aside0.mk (ho); clear HI0; clear HO200; clear HB; clear HK; clear HO_8; have HI0 := n0_; have HO200 := n1_; have HB := n2_; have HK := n3_; have HO204 := n4_; clear n0_ n1_ n2_ n3_ n4_; clear ho hb hg hat))
                 go_roundg k3
                 case measure => have := HJ5.out; have := HJ52.out; have := HK3.out; omega
                 case rel => exact ⟨(y202), (wrap64 (x9_3 + 1)), (t201), (by first | rfl | (simp; done) | (simp [*]; done)), H', ⟨by have := HJ5.out; have := HJ52.out; have := HK3.out; omega⟩, ⟨by (with_reducible repeat (first | apply Kd.R_alloc | apply Kd.R_drewN | apply Kd.R_drew)); exact Kd.R_mono HO204.out (fun _ hk => trivial)⟩, ⟨zz3_1_ HI0.out⟩, ⟨zz3_0_ HK.out⟩, ⟨zz3_2_ HB.out HI0.out⟩⟩
                ·rw [if_neg c87] at H
                 exact absurd H (by simp)
               ·rw [if_neg c85] at H
                have c85b0 : decide (x9_3 < (rd y173 x5_5)) = false := decide_eq_false c85
                clear c85
                simp only [Option.some.injEq, Prod.mk.injEq] at H
                obtain ⟨rfl, rfl⟩ := H
                go_wp2
                go_ret
                exact ⟨_, by first | rfl | (simp [errW_none, errW_some] <;> rfl) | (simp [*, errW_none, errW_some] <;> rfl), zz3_4_ HO_8.out, zz3_1_ HI0.out, zz3_2_ HB.out HI0.out, zz3_0_ HK.out⟩
          ·rw [if_neg c52] at H
           exact absurd H (by simp)
         ·rw [if_neg c51] at H
          exact absurd H (by simp)
  ·rw [if_neg c5] at H
   exact absurd H (by simp)
 ·rw [if_neg c4] at H
  exact absurd H (by simp)

end Go.Proofs.YtifeiepociopoaaDoor.PCell
