-- Written for this session by its program hprint.py over the kit's print: functions, and contracts that the walk of the Go code proves.
import Derived.Test.YtifeiepociopoaaDoorPCellx0
import Derived.Test.YtifeiepociopoaaDoorPCellx1
import Derived.Test.YtifeiepociopoaaDoorPCellx5
import Derived.Test.YtifeiepociopoaaDoorPCellx13
import Derived.Test.YtifeiepociopoaaDoorPCellx21
namespace Go.Proofs.YtifeiepociopoaaDoor.PCell
open Go.RowKit Go.Proofs.YtifeiepociopoaaDoor.Hand Go.Proofs.YtifeiepociopoaaDoorW.PrintWords Go.Proofs.YtifeiepociopoaaDoorW.PrintLast Go.Proofs.YtifeiepociopoaaDoorW.PrintMore
attribute [local go_sem] max2_int min2_int max_two min_two max_three min_three max_four min_four   -- for this text's walks alone
set_option linter.unusedVariables false
set_option linter.unusedSimpArgs false

/-! ### laws_FnCellValid: function 9 -/
theorem zz22_1_ {P1 Q : Prop} (h1 : P1) (f : P1 → Q := by intro zq1_; repeat (first | (with_reducible first | exact zq1_ | apply below_alloc | apply pw_below_drewN | apply below_drew1) | exact zq1_)) : Q := f h1
theorem zz22_0_ {Q : Prop} (f : Q := by (try simp only [List.map_toArray, List.map_cons, List.map_nil]); first | done | rfl | (simp only [List.length_drop, List.length_take]; rfl)) : Q := f
theorem zz22_2_ {P1 P2 Q : Prop} (h1 : P1) (h2 : P2) (f : P1 → P2 → Q := by intro zq1_ zq2_; repeat (first | (with_reducible first | exact zq1_ | apply below_alloc | apply pw_below_drewN | apply below_drew1 | refine below_set ?_ zq2_) | exact zq1_)) : Q := f h1 h2
theorem zz22_3_ {P1 Q : Prop} (h1 : P1) (f : P1 → Q := by intro zq1_; (with_reducible repeat (first | refine blk_drewN ?_ _ | refine blk_drew ?_ | refine blk_alloc ?_ _)); exact zq1_) : Q := f h1
def laws_FnCellValid.f (k : Nat) (l0 : List Int) : Option (Bool) := if (l0.length : Int) > 1048576 then (some true) else ((spec_DrawCellValid.f k l0).bind fun bt426 => ((impl_CellValid.f k bt426.1 bt426.2.1 bt426.2.2).bind fun t430 => ((spec_CellValid.f k bt426.1 bt426.2.1 bt426.2.2).bind fun t431 => (if (t430 != t431) = true then (none) else ((impl_CellValid.f k 10 bt426.2.1 0).bind fun t432 => (if t432 = true then (none) else ((impl_CellValid.f k 1 (⟨#[49]⟩ : ByteArray) 1).bind fun t433 => (if t433 = true then (none) else ((laws_alive.f k).bind fun t434 => (some t434))))))))))
theorem laws_FnCellValid.mono : ∀ a0 k, LeO (laws_FnCellValid.f k a0) (laws_FnCellValid.f (k + 1) a0) := by
 intro a0 k
 unfold laws_FnCellValid.f
 repeat' first
   | (with_reducible exact impl_CellValid.mono _ _ _ _)
   | (with_reducible exact laws_alive.mono _)
   | (with_reducible exact spec_CellValid.mono _ _ _ _)
   | (with_reducible exact spec_DrawCellValid.mono _ _)
   | (with_reducible exact LeO.refl _)
   | (with_reducible exact LeO.none _)
   | (with_reducible refine LeO.ite ?_ ?_)
   | (with_reducible refine LeO.bind ?_ (fun _ => ?_))
   | exact impl_CellValid.mono _ _ _ _
   | exact laws_alive.mono _
   | exact spec_CellValid.mono _ _ _ _
   | exact spec_DrawCellValid.mono _ _
   | exact LeO.none _
   | refine LeO.ite ?_ ?_
   | refine LeO.bind ?_ (fun _ => ?_)
set_option maxHeartbeats 8000000 in
set_option maxRecDepth 100000 in
theorem laws_FnCellValid.calls (k : Nat) (A0 : Option Addr) (c0 : Nat) (l0 : List Int) (r : Bool) (w : World) (hr0 : Kd.C (Kd.int .u8) w A0 l0.length l0) (hc0 : l0.length ≤ c0) (htab : Tab10 w) (h : laws_FnCellValid.f k l0 = some r) :
  Calls Tryd.prog 9 #[.slice A0 l0.length c0] w fun e w' => e = .returned (.bool r) ∧ Below w.heap.size w w' := by
 have HTAB := Aside0.mk htab
 clear htab
 have hu39 := Tryd.underlying39
 have HR0 := Aside0.mk hr0
 have HC0 := Aside0.mk hc0
 clear hr0 hc0
 have HB := Aside0.mk (Below.refl w.heap.size w)
 have H : (if (l0.length : Int) > 1048576 then (some true) else ((spec_DrawCellValid.f k l0).bind fun bt426 => ((impl_CellValid.f k bt426.1 bt426.2.1 bt426.2.2).bind fun t430 => ((spec_CellValid.f k bt426.1 bt426.2.1 bt426.2.2).bind fun t431 => (if (t430 != t431) = true then (none) else ((impl_CellValid.f k 10 bt426.2.1 0).bind fun t432 => (if t432 = true then (none) else ((impl_CellValid.f k 1 (⟨#[49]⟩ : ByteArray) 1).bind fun t433 => (if t433 = true then (none) else ((laws_alive.f k).bind fun t434 => (some t434))))))))))) = some r := h
 clear h
 by_cases c2 : (l0.length : Int) > 1048576
 ·rw [if_pos c2] at H
  have c2b0 : decide (1048576 < (l0.length : Int)) = true := decide_eq_true c2
  have c2b1 : decide (1048576 < l0.length) = true := decide_eq_true (by omega)
  clear c2
  obtain rfl := Option.some.inj H
  go_enter Tryd.func9, Tryd.ntmps9
  go_wp2
  go_ret
  exact ⟨by first | rfl | (simp [errW_none, errW_some] <;> rfl) | (simp [*, errW_none, errW_some] <;> rfl), zz22_1_ HB.out⟩
 ·rw [if_neg c2] at H
  have c2b0 : decide (1048576 < (l0.length : Int)) = false := decide_eq_false c2
  have c2b1 : decide (1048576 < l0.length) = false := decide_eq_false (by omega)
  clear c2
  replace H := Option.bind_eq_some_iff.mp H
  obtain ⟨⟨t426, t427, t428⟩, A30, H⟩ := H
  try dsimp only at H
  have A3 := Aside0.mk A30
  clear A30
  replace H := Option.bind_eq_some_iff.mp H
  obtain ⟨t430, A40, H⟩ := H
  try dsimp only at H
  have A4 := Aside0.mk A40
  clear A40
  replace H := Option.bind_eq_some_iff.mp H
  obtain ⟨t431, A50, H⟩ := H
  try dsimp only at H
  have A5 := Aside0.mk A50
  clear A50
  by_cases c6 : (t430 != t431) = true
  ·rw [if_pos c6] at H
   exact absurd H (by simp)
  ·rw [if_neg c6] at H
   have c6b0 : (t430 != t431) = false := by simpa using c6
   (try (have c6b1 : decide (t430 = t431) = true := by simpa using c6))
   (try (have c6b2 : (t430 == t431) = true := by simpa using c6))
   clear c6
   replace H := Option.bind_eq_some_iff.mp H
   obtain ⟨t432, A70, H⟩ := H
   try dsimp only at H
   have A7 := Aside0.mk A70
   clear A70
   by_cases c8 : t432 = true
   ·subst c8
    rw [if_pos rfl] at H
    exact absurd H (by simp)
   ·replace c8 := Bool.eq_false_iff.mpr c8
    subst c8
    rw [if_neg (show ¬ (false = true) by decide)] at H
    replace H := Option.bind_eq_some_iff.mp H
    obtain ⟨t433, A90, H⟩ := H
    try dsimp only at H
    have A9 := Aside0.mk A90
    clear A90
    by_cases c10 : t433 = true
    ·subst c10
     rw [if_pos rfl] at H
     exact absurd H (by simp)
    ·replace c10 := Bool.eq_false_iff.mpr c10
     subst c10
     rw [if_neg (show ¬ (false = true) by decide)] at H
     replace H := Option.bind_eq_some_iff.mp H
     obtain ⟨t434, A110, H⟩ := H
     try dsimp only at H
     have A11 := Aside0.mk A110
     clear A110
     obtain rfl := Option.some.inj H
     go_enter Tryd.func9, Tryd.ntmps9
     go_wp2_with (first | ((with_reducible refine gate_callee (f := 24) rfl ?_); refine goesL_ (some 9) rfl rfl Tryd.func24 (by kernel_rfl) rfl #[.slice A0 l0.length c0] rfl (zz22_0_) ?_; (with_reducible refine (spec_DrawCellValid.calls k _ _ l0 t426 t427 t428 _ ?side1 ?side2 A3.out).mono ?_); (case side1 => repeat (first | exact HR0.out | (with_reducible refine Kd.C_alloc ?_ _) | (with_reducible refine Kd.C_drewN ?_ _) | (with_reducible refine Kd.C_drew ?_))); (case side2 => exact HC0.out); rintro e w12 ⟨rfl, hb⟩; refine ⟨_, rfl, ?_⟩; have n0_ := Aside0.mk (below_step (zz22_1_ HB.out) hb); clear HB; have HB := n0_; clear n0_; (try clear hb); (try clear hb2); (try clear hk); (try clear hi)) | ((with_reducible refine gate_dst (N := 3) rfl ?_); refine box_event ?hg (N := 3) ?hd (cs := #[.int .i64 0, .string (⟨#[]⟩ : ByteArray), .int .i64 0]) (t := 39) ?hr ?_; (case hd => rfl); (case hg => rfl); (case hr => first | (go_simp; done) | (go_simp; rfl)); intro gb429 hg w13 hbox hb; have n0_ := Aside0.mk (below_step (zz22_1_ HB.out) hb); have n1_ := Aside0.mk (hbox); have n2_ := Aside0.mk ((by rw [hg]; exact (below_size (zz22_1_ HB.out)) : w.heap.size ≤ gb429)); have n3_ := Aside0.mk ((by rw [hg]; exact (below_size (zz22_1_ HB.out)) : w.heap.size ≤ gb429)); clear HB; have HB := n0_; have BK429 := n1_; have GW429 := n2_; have GE429 := n3_; clear n0_ n1_ n2_ n3_; clear hb hbox hg; have hcz14_0 : w13.cell? ⟨gb429, 0, none⟩ = some (.int .i64 0) := (blk_cell BK429.out 0).trans rfl; have hcz14_1 : w13.cell? ⟨gb429, 1, none⟩ = some (.string (⟨#[]⟩ : ByteArray)) := (blk_cell BK429.out 1).trans rfl; have hcz14_2 : w13.cell? ⟨gb429, 2, none⟩ = some (.int .i64 0) := (blk_cell BK429.out 2).trans rfl; have hfz14_0 := blk_frozen BK429.out 0; have hfz14_1 := blk_frozen BK429.out 1; have hfz14_2 := blk_frozen BK429.out 2) | ((with_reducible refine gate_callee (f := 25) rfl ?_); refine goesL_ (some 11) rfl rfl Tryd.func25 (by kernel_rfl) rfl #[.agg #[.int .i64 t426, .string t427, .int .i64 t428]] rfl (zz22_0_) ?_; (with_reducible refine (impl_CellValid.calls k t426 t427 t428 t430 _ (by first | exact HTAB.out | exact tab_at HTAB.out (by repeat (first | (with_reducible first | exact HB.out | apply below_alloc | apply pw_below_drewN | apply below_drew1 | refine below_set ?_ (GE429).out) | exact HB.out))) A4.out).mono ?_); rintro e w15 ⟨rfl, hb⟩; refine ⟨_, rfl, ?_⟩; have n0_ := Aside0.mk (blk_below (g := gb429) (o := .cells #[.int .i64 t426, .string t427, .int .i64 t428] 39 (0, 0)) (by (with_reducible repeat (first | refine blk_drewN ?_ _ | refine blk_drew ?_ | refine blk_alloc ?_ _)); refine blk_put (cs := #[.int .i64 t426, .string t427, .int .i64 0]) ?_ 2 _ rfl; (with_reducible repeat (first | refine blk_drewN ?_ _ | refine blk_drew ?_ | refine blk_alloc ?_ _)); refine blk_put (cs := #[.int .i64 t426, .string (⟨#[]⟩ : ByteArray), .int .i64 0]) ?_ 1 _ rfl; (with_reducible repeat (first | refine blk_drewN ?_ _ | refine blk_drew ?_ | refine blk_alloc ?_ _)); refine blk_put (cs := #[.int .i64 0, .string (⟨#[]⟩ : ByteArray), .int .i64 0]) ?_ 0 _ rfl; (with_reducible repeat (first | refine blk_drewN ?_ _ | refine blk_drew ?_ | refine blk_alloc ?_ _)); exact BK429.out) hb); have n1_ := Aside0.mk (below_step (zz22_2_ HB.out GE429.out) hb); clear BK429; clear HB; have BK429 := n0_; have HB := n1_; clear n0_ n1_; (try clear hb); (try clear hb2); (try clear hk); (try clear hi); have hcz16_0 : w15.cell? ⟨gb429, 0, none⟩ = some (.int .i64 t426) := (blk_cell BK429.out 0).trans rfl; have hcz16_1 : w15.cell? ⟨gb429, 1, none⟩ = some (.string t427) := (blk_cell BK429.out 1).trans rfl; have hcz16_2 : w15.cell? ⟨gb429, 2, none⟩ = some (.int .i64 t428) := (blk_cell BK429.out 2).trans rfl; have hfz16_0 := blk_frozen BK429.out 0; have hfz16_1 := blk_frozen BK429.out 1; have hfz16_2 := blk_frozen BK429.out 2) | ((with_reducible refine gate_callee (f := 26) rfl ?_); refine goesL_ (some 14) rfl rfl Tryd.func26 (by kernel_rfl) rfl #[.agg #[.int .i64 t426, .string t427, .int .i64 t428]] rfl (zz22_0_) ?_; (with_reducible refine (spec_CellValid.calls k t426 t427 t428 t431 _ A5.out).mono ?_); rintro e w17 ⟨rfl, hb⟩; refine ⟨_, rfl, ?_⟩; have n0_ := Aside0.mk (blk_below (g := gb429) (o := .cells #[.int .i64 t426, .string t427, .int .i64 t428] 39 (0, 0)) (zz22_3_ BK429.out) hb); have n1_ := Aside0.mk (below_step (zz22_2_ HB.out GE429.out) hb); clear BK429; clear HB; have BK429 := n0_; have HB := n1_; clear n0_ n1_; (try clear hb); (try clear hb2); (try clear hk); (try clear hi); have hcz18_0 : w17.cell? ⟨gb429, 0, none⟩ = some (.int .i64 t426) := (blk_cell BK429.out 0).trans rfl; have hcz18_1 : w17.cell? ⟨gb429, 1, none⟩ = some (.string t427) := (blk_cell BK429.out 1).trans rfl; have hcz18_2 : w17.cell? ⟨gb429, 2, none⟩ = some (.int .i64 t428) := (blk_cell BK429.out 2).trans rfl; have hfz18_0 := blk_frozen BK429.out 0; have hfz18_1 := blk_frozen BK429.out 1; have hfz18_2 := blk_frozen BK429.out 2) | ((with_reducible refine gate_callee (f := 25) rfl ?_); refine goesL_ (some 19) rfl rfl Tryd.func25 (by kernel_rfl) rfl #[.agg #[.int .i64 10, .string t427, .int .i64 0]] rfl (zz22_0_) ?_; (with_reducible refine (impl_CellValid.calls k 10 t427 0 false _ (by first | exact HTAB.out | exact tab_at HTAB.out (by repeat (first | (with_reducible first | exact HB.out | apply below_alloc | apply pw_below_drewN | apply below_drew1 | refine below_set ?_ (GE429).out) | exact HB.out))) A7.out).mono ?_); rintro e w19 ⟨rfl, hb⟩; refine ⟨_, rfl, ?_⟩; have n0_ := Aside0.mk (blk_below (g := gb429) (o := .cells #[.int .i64 t426, .string t427, .int .i64 t428] 39 (0, 0)) (zz22_3_ BK429.out) hb); have n1_ := Aside0.mk (below_step (zz22_2_ HB.out GE429.out) hb); clear BK429; clear HB; have BK429 := n0_; have HB := n1_; clear n0_ n1_; (try clear hb); (try clear hb2); (try clear hk); (try clear hi)) | (go_at_call 25; (with_reducible refine (impl_CellValid.calls k 1 (⟨#[49]⟩ : ByteArray) 1 false _ (by first | exact HTAB.out | exact tab_at HTAB.out (by repeat (first | (with_reducible first | exact HB.out | apply below_alloc | apply pw_below_drewN | apply below_drew1 | refine below_set ?_ (GE429).out) | exact HB.out))) A9.out).mono ?_); rintro e w20 ⟨rfl, hb⟩; have n0_ := Aside0.mk (blk_below (g := gb429) (o := .cells #[.int .i64 t426, .string t427, .int .i64 t428] 39 (0, 0)) (zz22_3_ BK429.out) hb); have n1_ := Aside0.mk (below_step (zz22_2_ HB.out GE429.out) hb); clear BK429; clear HB; have BK429 := n0_; have HB := n1_; clear n0_ n1_; (try clear hb); (try clear hb2); (try clear hk); (try clear hi)) | (go_at_call 15; (with_reducible refine (laws_alive.calls k  t434 _ A11.out).mono ?_); rintro e w' ⟨rfl, ⟨nd, rfl⟩⟩))
     go_ret
     exact ⟨by first | rfl | (simp [errW_none, errW_some] <;> rfl) | (simp [*, errW_none, errW_some] <;> rfl), zz22_2_ HB.out GE429.out⟩

/-- THE ONE PURE STATEMENT of laws_FnCellValid: yours. -/
def laws_FnCellValid.Pure : Prop := ∀ (l0 : List Int), l0.length ≤ maxLen → l0.length * 1 ≤ 140737488351232 → (∀ x ∈ l0, (Lit.int .u8 x).wf = true) → ∃ k, laws_FnCellValid.f k l0 = some true
theorem laws_FnCellValid.walk (P : laws_FnCellValid.Pure) (a0 : Option Addr) (len0 cap0 : Nat) (z0 : List Int) (w : World) (w0 : (a0 = none ∧ len0 = 0 ∧ cap0 = 0 ∧ z0 = []) ∨ ∃ x, a0 = some x ∧ len0 ≤ cap0 ∧ cap0 ≤ maxLen ∧ z0.length = cap0 ∧ (∀ i, i < z0.length → w.cell? (x.add i) = some (.int .u8 (z0.getD i 0))) ∧ ∀ n ∈ z0, (Lit.int .u8 n).wf = true) (y0 : len0 * 1 ≤ 140737488351232) (htab : Tab10 w) :
  Calls Tryd.prog 9 #[.slice a0 len0 cap0] w fun e w' => e = .returned (.bool true) ∧ Below w.heap.size w w' := by
 obtain ⟨l0, rfl, hr0, hm0, hw0, hc0⟩ := ReadsInt.ofRowC w0
 obtain ⟨k, h⟩ := P l0 hm0 y0 hw0
 refine (laws_FnCellValid.calls k _ _ l0 true w (Kd.C_of_reads (d := (0 : Int)) (h1 := fun _ => rfl) hr0) hc0 htab h).mono ?_
 rintro e w' ⟨rfl, hd⟩
 exact ⟨rfl, hd⟩

end Go.Proofs.YtifeiepociopoaaDoor.PCell
